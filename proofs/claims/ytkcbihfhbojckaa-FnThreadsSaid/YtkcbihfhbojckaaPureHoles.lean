/- Holes: what program and reference call holes, and how holes are drawn. Plain laws of the printed functions. No conditions. -/
import Derived.Test.YtkcbihfhbojckaaX8
import Derived.Test.YtkcbihfhbojckaaX7
import Derived.Test.YtkcbihfhbojckaaX5
import Derived.Test.YtkcbihfhbojckaaPDraw
namespace Go.Proofs.Ytkcbihfhbojckaa.Pure
open Go.RowKit Go.Proofs.Ytkcbihfhbojckaa.X Go.Proofs.YtkcbihfhbojckaaW.PrintWords Go.Proofs.YtkcbihfhbojckaaW.PrintLast
set_option linter.unusedVariables false

theorem rd_get {l : List Int} {i : Int} (h0 : 0 ≤ i) (h1 : i < l.length) : rd l i = l[i.toNat]'(by omega) := by
  unfold rd
  rw [List.getD_eq_getElem?_getD, List.getElem?_eq_getElem (by omega)]
  rfl

/-- What AreHoles asks. -/
def Holes (l : List Int) : Prop := 2 ≤ l.length ∧ l.length ≤ 12 ∧ (∀ i : Int, 0 ≤ i → i < l.length → 0 ≤ rd l i ∧ rd l i ≤ 20000) ∧ ∀ i : Int, 1 ≤ i → i < l.length → rd l (i - 1) < rd l i
open Classical in
noncomputable def areH (l : List Int) : Bool := decide (Holes l)
theorem areH_true {l : List Int} : areH l = true ↔ Holes l := by unfold areH; simp

theorem impl_rises (l : List Int) (hl : l.length ≤ 140737488351232) (d : Nat) : ∀ (k : Nat) (i : Int), 1 ≤ i → i ≤ l.length + 1 → (l.length : Int) + 1 - i = d → d < k →
    ∃ b, impl_AreHoles.l0 k l i = some b ∧ (b = true ↔ ∀ j : Int, i ≤ j → j < l.length → rd l (j - 1) < rd l j) := by
  induction d with
  | zero =>
    intro k i h0 h1 hd hk
    obtain ⟨k, rfl⟩ : ∃ m, k = m + 1 := ⟨k - 1, by omega⟩
    refine ⟨true, by simp only [impl_AreHoles.l0]; rw [if_neg (by omega)], fun _ j h2 h3 => by omega, fun _ => rfl⟩
  | succ d ih =>
    intro k i h0 h1 hd hk
    obtain ⟨k, rfl⟩ : ∃ m, k = m + 1 := ⟨k - 1, by omega⟩
    by_cases hlt : i < (l.length : Int)
    · have e : wrap64 (i - 1) = i - 1 := w64 (by omega) (by omega)
      have e' : wrap64 (i + 1) = i + 1 := w64 (by omega) (by omega)
      simp only [impl_AreHoles.l0]
      rw [if_pos hlt, e, if_pos (by omega), if_pos (by omega), if_pos (by omega), e']
      by_cases hc : rd l (i - 1) ≥ rd l i
      · rw [if_pos hc]
        exact ⟨false, rfl, fun h => by simp at h, fun h => by have := h i (by omega) hlt; omega⟩
      · rw [if_neg hc]
        obtain ⟨b, hb, hiff⟩ := ih k (i + 1) (by omega) (by omega) (by omega) (by omega)
        refine ⟨b, hb, hiff.trans ⟨fun h j h2 h3 => ?_, fun h j h2 h3 => h j (by omega) h3⟩⟩
        by_cases hj : j = i
        · subst hj; omega
        · exact h j (by omega) h3
    · exact ⟨true, by simp only [impl_AreHoles.l0]; rw [if_neg hlt], fun _ j h2 h3 => by omega, fun _ => rfl⟩

theorem spec_rises (l : List Int) (hl : l.length ≤ 140737488351232) (d : Nat) : ∀ (k : Nat) (i : Int), 1 ≤ i → i ≤ l.length + 1 → (l.length : Int) + 1 - i = d → d < k →
    ∃ b, spec_l01Rises.l0 k l i = some b ∧ (b = true ↔ ∀ j : Int, i ≤ j → j < l.length → rd l (j - 1) < rd l j) := by
  induction d with
  | zero =>
    intro k i h0 h1 hd hk
    obtain ⟨k, rfl⟩ : ∃ m, k = m + 1 := ⟨k - 1, by omega⟩
    refine ⟨true, by simp only [spec_l01Rises.l0]; rw [if_neg (by omega)], fun _ j h2 h3 => by omega, fun _ => rfl⟩
  | succ d ih =>
    intro k i h0 h1 hd hk
    obtain ⟨k, rfl⟩ : ∃ m, k = m + 1 := ⟨k - 1, by omega⟩
    by_cases hlt : i < (l.length : Int)
    · have e : wrap64 (i - 1) = i - 1 := w64 (by omega) (by omega)
      have e' : wrap64 (i + 1) = i + 1 := w64 (by omega) (by omega)
      simp only [spec_l01Rises.l0]
      rw [if_pos hlt, e, if_pos (by omega), if_pos (by omega), if_pos (by omega), e']
      by_cases hc : rd l i ≤ rd l (i - 1)
      · rw [if_pos hc]
        exact ⟨false, rfl, fun h => by simp at h, fun h => by have := h i (by omega) hlt; omega⟩
      · rw [if_neg hc]
        obtain ⟨b, hb, hiff⟩ := ih k (i + 1) (by omega) (by omega) (by omega) (by omega)
        refine ⟨b, hb, hiff.trans ⟨fun h j h2 h3 => ?_, fun h j h2 h3 => h j (by omega) h3⟩⟩
        by_cases hj : j = i
        · subst hj; omega
        · exact h j (by omega) h3
    · exact ⟨true, by simp only [spec_l01Rises.l0]; rw [if_neg hlt], fun _ j h2 h3 => by omega, fun _ => rfl⟩

theorem in_spec (n lo hi : Int) : spec_l01In.f n lo hi = some (decide (lo ≤ n ∧ n ≤ hi)) := by
  unfold spec_l01In.f
  by_cases h : n ≥ lo
  · rw [if_pos h]; congr 1; simp; omega
  · rw [if_neg h]; congr 1; simp; omega
theorem in_impl (n lo hi : Int) : impl_inRange.f n lo hi = some (decide (lo ≤ n ∧ n ≤ hi)) := by
  unfold impl_inRange.f
  by_cases h : lo ≤ n
  · rw [if_pos h]; congr 1; simp; omega
  · rw [if_neg h]; congr 1; simp; omega

theorem spec_within (l : List Int) (most lo hi : Int) (hl : l.length ≤ 140737488351232) (d : Nat) : ∀ (k : Nat) (i : Int), 0 ≤ i → i ≤ l.length → (l.length : Int) - i = d → d < k →
    ∃ b, spec_l01Within.l0 k l most lo hi i = some b ∧ (b = true ↔ (∀ j : Int, i ≤ j → j < l.length → lo ≤ rd l j ∧ rd l j ≤ hi) ∧ (l.length : Int) ≤ most) := by
  induction d with
  | zero =>
    intro k i h0 h1 hd hk
    obtain ⟨k, rfl⟩ : ∃ m, k = m + 1 := ⟨k - 1, by omega⟩
    refine ⟨_, by simp only [spec_l01Within.l0]; rw [if_neg (by omega)], ?_⟩
    rw [decide_eq_true_eq]
    exact ⟨fun h => ⟨fun j h2 h3 => by omega, h⟩, fun h => h.2⟩
  | succ d ih =>
    intro k i h0 h1 hd hk
    obtain ⟨k, rfl⟩ : ∃ m, k = m + 1 := ⟨k - 1, by omega⟩
    have e' : wrap64 (i + 1) = i + 1 := w64 (by omega) (by omega)
    simp only [spec_l01Within.l0]
    rw [if_pos (by omega), if_pos h0, in_spec, e']
    simp only [Option.bind_some]
    by_cases hc : lo ≤ rd l i ∧ rd l i ≤ hi
    · rw [decide_eq_true hc, if_pos rfl]
      obtain ⟨b, hb, hiff⟩ := ih k (i + 1) (by omega) (by omega) (by omega) (by omega)
      refine ⟨b, hb, hiff.trans ⟨fun h => ⟨fun j h2 h3 => ?_, h.2⟩, fun h => ⟨fun j h2 h3 => h.1 j (by omega) h3, h.2⟩⟩⟩
      by_cases hj : j = i
      · subst hj; exact hc
      · exact h.1 j (by omega) h3
    · rw [decide_eq_false hc, if_neg (by simp)]
      exact ⟨false, rfl, fun h => by simp at h, fun h => absurd (h.1 i (by omega) (by omega)) hc⟩

theorem all_rd (l : List Int) (lo hi : Int) : (l.all fun x => decide (lo ≤ x) && decide (x ≤ hi)) = true ↔ ∀ i : Int, 0 ≤ i → i < l.length → lo ≤ rd l i ∧ rd l i ≤ hi := by
  rw [List.all_eq_true]
  constructor
  · intro h i h0 h1
    rw [rd_get h0 h1]
    have := h _ (List.getElem_mem (show i.toNat < l.length by omega))
    simpa using this
  · intro h x hx
    obtain ⟨n, hn, rfl⟩ := List.getElem_of_mem hx
    have := h (n : Int) (by omega) (by omega)
    rw [rd_get (by omega) (by omega)] at this
    simpa using this

theorem impl_are (l : List Int) (hl : l.length ≤ 140737488351232) (k : Nat) (hk : l.length + 3 < k) : impl_AreHoles.f k l = some (areH l) := by
  unfold impl_AreHoles.f impl_length_int64.f
  simp only [Option.bind_some, in_impl]
  obtain ⟨k, rfl⟩ : ∃ m, k = m + 1 := ⟨k - 1, by omega⟩
  by_cases h1 : (2 : Int) ≤ (l.length : Int) ∧ (l.length : Int) ≤ 12
  · rw [decide_eq_true h1, if_pos rfl]
    unfold impl_allIn.f
    simp only [Option.bind_some]
    by_cases h2 : (l.all fun x => decide ((0 : Int) ≤ x) && decide (x ≤ 20000)) = true
    · rw [h2]
      simp only [Bool.not_true, impl_AreHoles.j0]
      rw [if_neg (by simp)]
      obtain ⟨b, hb, hiff⟩ := impl_rises l hl l.length k 1 (by omega) (by omega) (by omega) (by omega)
      rw [hb]
      congr 1
      rw [Bool.eq_iff_iff, hiff, areH_true]
      exact ⟨fun h => ⟨by omega, by omega, (all_rd l 0 20000).1 h2, h⟩, fun h => h.2.2.2⟩
    · have h2' : (l.all fun x => decide ((0 : Int) ≤ x) && decide (x ≤ 20000)) = false := by simpa using h2
      rw [h2']
      simp only [Bool.not_false, impl_AreHoles.j0, if_true]
      congr 1
      symm
      rw [Bool.eq_false_iff]
      exact fun h => h2 ((all_rd l 0 20000).2 (areH_true.1 h).2.2.1)
  · rw [decide_eq_false h1, if_neg (by simp)]
    simp only [impl_AreHoles.j0, if_true]
    congr 1
    symm
    rw [Bool.eq_false_iff]
    exact fun h => h1 (by have := areH_true.1 h; exact ⟨by have := this.1; omega, by have := this.2.1; omega⟩)

theorem spec_are (l : List Int) (hl : l.length ≤ 140737488351232) (k : Nat) (hk : l.length + 3 < k) : spec_AreHoles.f k l = some (areH l) := by
  unfold spec_AreHoles.f
  by_cases h1 : (l.length : Int) ≥ 2
  · rw [if_pos h1]
    unfold spec_l01Rises.f
    obtain ⟨b, hb, hiff⟩ := spec_rises l hl l.length k 1 (by omega) (by omega) (by omega) (by omega)
    rw [hb]
    simp only [Option.bind_some]
    cases b with
    | true =>
      rw [if_pos rfl]
      unfold spec_l01Within.f
      obtain ⟨b2, hb2, hiff2⟩ := spec_within l 12 0 20000 hl l.length k 0 (by omega) (by omega) (by omega) (by omega)
      rw [hb2]
      simp only [Option.bind_some]
      congr 1
      rw [Bool.eq_iff_iff, hiff2, areH_true]
      exact ⟨fun h => ⟨by omega, by omega, h.1, hiff.1 rfl⟩, fun h => ⟨h.2.2.1, by have := h.2.1; omega⟩⟩
    | false =>
      rw [if_neg (by simp)]
      congr 1
      symm
      rw [Bool.eq_false_iff]
      exact fun h => by have := hiff.2 (areH_true.1 h).2.2.2; simp at this
  · rw [if_neg h1]
    congr 1
    symm
    rw [Bool.eq_false_iff]
    exact fun h => by have := (areH_true.1 h).1; omega

/-- Two lists alike. -/
theorem holes_le {l : List Int} (hH : Holes l) (d : Nat) : ∀ i j : Int, 0 ≤ i → j < l.length → j - i = d → rd l i ≤ rd l j := by
  induction d with
  | zero => intro i j h0 h1 hd; rw [show j = i from by omega]; omega
  | succ d ih =>
    intro i j h0 h1 hd
    have h := ih i (j - 1) h0 (by omega) (by omega)
    have h2 := hH.2.2.2 j (by omega) h1
    omega
theorem holes_loop (c : List Int) (d : Nat) : ∀ (k : Nat) (x3 : List Int) (x4 x5 a s : Int), x5 = d → 2 ≤ x3.length + d → x3.length + d ≤ 9 → d < k → St c a s →
    ∃ l a' s', spec_l16DrawHoles.l0 k x3 x4 x5 c a s = some (l, a', s') ∧ St c a' s' ∧ 1 ≤ l.length ∧ l.length ≤ 9 := by
  induction d with
  | zero =>
    intro k x3 x4 x5 a s hd h2 h9 hk hs
    obtain ⟨k, rfl⟩ : ∃ m, k = m + 1 := ⟨k - 1, by omega⟩
    simp only [spec_l16DrawHoles.l0]
    rw [if_neg (by omega)]
    obtain ⟨r, a1, s1, e, hs1, _, _, _⟩ := next_ok hs 40
    rw [e]
    simp only [Option.bind_some]
    by_cases r0 : r = 0
    · rw [if_pos r0, if_pos (by omega)]
      obtain ⟨p, a2, s2, e2, hs2, _⟩ := pick_ok hs1 ([-1, rd x3 1, 0] : List Int) (by simp) (by simp)
      rw [e2]
      simp only [Option.bind_some]
      rw [if_pos (by omega)]
      exact ⟨_, _, _, rfl, hs2, by simp; omega, by simp; omega⟩
    · rw [if_neg r0]
      by_cases r1 : r = 1
      · rw [if_pos r1]
        obtain ⟨p, a2, s2, e2, hs2, _⟩ := pick_ok hs1 ([20000, 20001] : List Int) (by simp) (by simp)
        rw [e2]
        simp only [Option.bind_some]
        have e : wrap64 ((x3.length : Int) - 1) = (x3.length : Int) - 1 := w64 (by omega) (by omega)
        rw [e, if_pos (by omega), if_pos (by omega)]
        exact ⟨_, _, _, rfl, hs2, by simp; omega, by simp; omega⟩
      · rw [if_neg r1]
        by_cases r2 : r = 2
        · rw [if_pos r2, if_pos (by omega)]
          exact ⟨_, _, _, rfl, hs1, by simp; omega, by simp; omega⟩
        · rw [if_neg r2]
          exact ⟨_, _, _, rfl, hs1, by omega, by omega⟩
  | succ d ih =>
    intro k x3 x4 x5 a s hd h2 h9 hk hs
    obtain ⟨k, rfl⟩ : ∃ m, k = m + 1 := ⟨k - 1, by omega⟩
    simp only [spec_l16DrawHoles.l0]
    rw [if_pos (by omega), if_pos (by omega)]
    obtain ⟨r, a1, s1, e, hs1, _, _, _⟩ := next_ok hs 300
    rw [e]
    simp only [Option.bind_some]
    have e5 : wrap64 (x5 - 1) = x5 - 1 := w64 (by omega) (by omega)
    rw [e5]
    exact ih k _ _ _ _ _ (by omega) (by simp; omega) (by simp; omega) (by omega) hs1
theorem draw_holes (c : List Int) (a s : Int) (hs : St c a s) : ∃ l a' s', (∀ k, 50 < k → spec_l16DrawHoles.f k c a s = some (l, a', s')) ∧ St c a' s' ∧ 1 ≤ l.length ∧ l.length ≤ 9 := by
  obtain ⟨r1, a1, s1, e1, hs1, _, _, _⟩ := next_ok hs 200
  obtain ⟨r2, a2, s2, e2, hs2, h20, h21, _⟩ := next_ok hs1 4
  obtain ⟨r3, a3, s3, e3, hs3, h30, h31, _⟩ := next_ok hs2 5
  have g2 := h21 (by omega)
  have w1 : wrap64 (1 + r2) = 1 + r2 := w64 (by omega) (by omega)
  have w2 : wrap64 (2 * (1 + r2)) = 2 * (1 + r2) := w64 (by omega) (by omega)
  have w3 : wrap64 (2 * (1 + r2) + 1) = 2 * (1 + r2) + 1 := w64 (by omega) (by omega)
  by_cases r0 : r3 = 0
  · obtain ⟨l, a', s', e, hs', h1, h9⟩ := holes_loop c (2 * (1 + r2) + 1).toNat 20 [] r1 (2 * (1 + r2) + 1) a3 s3 (by omega) (by simp; omega) (by simp; omega) (by omega) hs3
    refine ⟨l, a', s', fun k hk => ?_, hs', h1, h9⟩
    refine at_rounds (g := fun k => spec_l16DrawHoles.f k c a s) (fun k => spec_l16DrawHoles.mono c a s k) (show 21 ≤ k by omega) ?_
    show spec_l16DrawHoles.f 21 c a s = _
    unfold spec_l16DrawHoles.f
    simp only [Option.bind_some, e1, e2, e3, w1, w2, w3, r0, if_true]
    simp only [spec_l16DrawHoles.j0]
    exact e
  · obtain ⟨l, a', s', e, hs', h1, h9⟩ := holes_loop c (2 * (1 + r2)).toNat 20 [] r1 (2 * (1 + r2)) a3 s3 (by omega) (by simp; omega) (by simp; omega) (by omega) hs3
    refine ⟨l, a', s', fun k hk => ?_, hs', h1, h9⟩
    refine at_rounds (g := fun k => spec_l16DrawHoles.f k c a s) (fun k => spec_l16DrawHoles.mono c a s k) (show 21 ≤ k by omega) ?_
    show spec_l16DrawHoles.f 21 c a s = _
    unfold spec_l16DrawHoles.f
    simp only [Option.bind_some, e1, e2, e3, w1, w2, r0, if_false]
    simp only [spec_l16DrawHoles.j0]
    exact e
end Go.Proofs.Ytkcbihfhbojckaa.Pure
