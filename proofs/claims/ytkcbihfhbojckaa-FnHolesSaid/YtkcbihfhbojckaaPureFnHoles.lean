/- FnHoles: for every code the answer is true: holes mirrored twice are the holes, even holes lie within the margins, the inside of a section is shorter than its span; program and reference agree. No conditions. -/
import Derived.Test.YtkcbihfhbojckaaX7
import Derived.Test.YtkcbihfhbojckaaPDraw
namespace Go.Proofs.Ytkcbihfhbojckaa.Pure
open Go.RowKit Go.Proofs.Ytkcbihfhbojckaa.X Go.Proofs.YtkcbihfhbojckaaW.PrintWords Go.Proofs.YtkcbihfhbojckaaW.PrintLast
set_option linter.unusedVariables false

theorem rd_get {l : List Int} {i : Int} (h0 : 0 ≤ i) (h1 : i < l.length) : rd l i = l[i.toNat]'(by omega) := by
  unfold rd
  rw [List.getD_eq_getElem?_getD, List.getElem?_eq_getElem (by omega)]
  rfl

/-- What AreHoles asks. -/
def Holes (l : List Int) : Prop := 2 ≤ l.length ∧ l.length ≤ 12 ∧ (∀ i : Int, 0 ≤ i → i < l.length → 0 ≤ rd l i ∧ rd l i ≤ 20000) ∧ ∀ i : Int, 1 ≤ i → i < l.length → rd l (i - 1) < rd l i
open Classical in
noncomputable def areH (l : List Int) : Bool := decide (Holes l)
theorem areH_true {l : List Int} : areH l = true ↔ Holes l := by unfold areH; simp

theorem impl_rises (l : List Int) (hl : l.length ≤ 140737488351232) (d : Nat) : ∀ (k : Nat) (i : Int), 1 ≤ i → i ≤ l.length + 1 → (l.length : Int) + 1 - i = d → d < k →
    ∃ b, impl_AreHoles.l0 k l i = some b ∧ (b = true ↔ ∀ j : Int, i ≤ j → j < l.length → rd l (j - 1) < rd l j) := by
  induction d with
  | zero =>
    intro k i h0 h1 hd hk
    obtain ⟨k, rfl⟩ : ∃ m, k = m + 1 := ⟨k - 1, by omega⟩
    refine ⟨true, by simp only [impl_AreHoles.l0]; rw [if_neg (by omega)], fun _ j h2 h3 => by omega, fun _ => rfl⟩
  | succ d ih =>
    intro k i h0 h1 hd hk
    obtain ⟨k, rfl⟩ : ∃ m, k = m + 1 := ⟨k - 1, by omega⟩
    by_cases hlt : i < (l.length : Int)
    · have e : wrap64 (i - 1) = i - 1 := w64 (by omega) (by omega)
      have e' : wrap64 (i + 1) = i + 1 := w64 (by omega) (by omega)
      simp only [impl_AreHoles.l0]
      rw [if_pos hlt, e, if_pos (by omega), if_pos (by omega), if_pos (by omega), e']
      by_cases hc : rd l (i - 1) ≥ rd l i
      · rw [if_pos hc]
        exact ⟨false, rfl, fun h => by simp at h, fun h => by have := h i (by omega) hlt; omega⟩
      · rw [if_neg hc]
        obtain ⟨b, hb, hiff⟩ := ih k (i + 1) (by omega) (by omega) (by omega) (by omega)
        refine ⟨b, hb, hiff.trans ⟨fun h j h2 h3 => ?_, fun h j h2 h3 => h j (by omega) h3⟩⟩
        by_cases hj : j = i
        · subst hj; omega
        · exact h j (by omega) h3
    · exact ⟨true, by simp only [impl_AreHoles.l0]; rw [if_neg hlt], fun _ j h2 h3 => by omega, fun _ => rfl⟩

theorem spec_rises (l : List Int) (hl : l.length ≤ 140737488351232) (d : Nat) : ∀ (k : Nat) (i : Int), 1 ≤ i → i ≤ l.length + 1 → (l.length : Int) + 1 - i = d → d < k →
    ∃ b, spec_l01Rises.l0 k l i = some b ∧ (b = true ↔ ∀ j : Int, i ≤ j → j < l.length → rd l (j - 1) < rd l j) := by
  induction d with
  | zero =>
    intro k i h0 h1 hd hk
    obtain ⟨k, rfl⟩ : ∃ m, k = m + 1 := ⟨k - 1, by omega⟩
    refine ⟨true, by simp only [spec_l01Rises.l0]; rw [if_neg (by omega)], fun _ j h2 h3 => by omega, fun _ => rfl⟩
  | succ d ih =>
    intro k i h0 h1 hd hk
    obtain ⟨k, rfl⟩ : ∃ m, k = m + 1 := ⟨k - 1, by omega⟩
    by_cases hlt : i < (l.length : Int)
    · have e : wrap64 (i - 1) = i - 1 := w64 (by omega) (by omega)
      have e' : wrap64 (i + 1) = i + 1 := w64 (by omega) (by omega)
      simp only [spec_l01Rises.l0]
      rw [if_pos hlt, e, if_pos (by omega), if_pos (by omega), if_pos (by omega), e']
      by_cases hc : rd l i ≤ rd l (i - 1)
      · rw [if_pos hc]
        exact ⟨false, rfl, fun h => by simp at h, fun h => by have := h i (by omega) hlt; omega⟩
      · rw [if_neg hc]
        obtain ⟨b, hb, hiff⟩ := ih k (i + 1) (by omega) (by omega) (by omega) (by omega)
        refine ⟨b, hb, hiff.trans ⟨fun h j h2 h3 => ?_, fun h j h2 h3 => h j (by omega) h3⟩⟩
        by_cases hj : j = i
        · subst hj; omega
        · exact h j (by omega) h3
    · exact ⟨true, by simp only [spec_l01Rises.l0]; rw [if_neg hlt], fun _ j h2 h3 => by omega, fun _ => rfl⟩

theorem in_spec (n lo hi : Int) : spec_l01In.f n lo hi = some (decide (lo ≤ n ∧ n ≤ hi)) := by
  unfold spec_l01In.f
  by_cases h : n ≥ lo
  · rw [if_pos h]; congr 1; simp; omega
  · rw [if_neg h]; congr 1; simp; omega
theorem in_impl (n lo hi : Int) : impl_inRange.f n lo hi = some (decide (lo ≤ n ∧ n ≤ hi)) := by
  unfold impl_inRange.f
  by_cases h : lo ≤ n
  · rw [if_pos h]; congr 1; simp; omega
  · rw [if_neg h]; congr 1; simp; omega

theorem spec_within (l : List Int) (most lo hi : Int) (hl : l.length ≤ 140737488351232) (d : Nat) : ∀ (k : Nat) (i : Int), 0 ≤ i → i ≤ l.length → (l.length : Int) - i = d → d < k →
    ∃ b, spec_l01Within.l0 k l most lo hi i = some b ∧ (b = true ↔ (∀ j : Int, i ≤ j → j < l.length → lo ≤ rd l j ∧ rd l j ≤ hi) ∧ (l.length : Int) ≤ most) := by
  induction d with
  | zero =>
    intro k i h0 h1 hd hk
    obtain ⟨k, rfl⟩ : ∃ m, k = m + 1 := ⟨k - 1, by omega⟩
    refine ⟨_, by simp only [spec_l01Within.l0]; rw [if_neg (by omega)], ?_⟩
    rw [decide_eq_true_eq]
    exact ⟨fun h => ⟨fun j h2 h3 => by omega, h⟩, fun h => h.2⟩
  | succ d ih =>
    intro k i h0 h1 hd hk
    obtain ⟨k, rfl⟩ : ∃ m, k = m + 1 := ⟨k - 1, by omega⟩
    have e' : wrap64 (i + 1) = i + 1 := w64 (by omega) (by omega)
    simp only [spec_l01Within.l0]
    rw [if_pos (by omega), if_pos h0, in_spec, e']
    simp only [Option.bind_some]
    by_cases hc : lo ≤ rd l i ∧ rd l i ≤ hi
    · rw [decide_eq_true hc, if_pos rfl]
      obtain ⟨b, hb, hiff⟩ := ih k (i + 1) (by omega) (by omega) (by omega) (by omega)
      refine ⟨b, hb, hiff.trans ⟨fun h => ⟨fun j h2 h3 => ?_, h.2⟩, fun h => ⟨fun j h2 h3 => h.1 j (by omega) h3, h.2⟩⟩⟩
      by_cases hj : j = i
      · subst hj; exact hc
      · exact h.1 j (by omega) h3
    · rw [decide_eq_false hc, if_neg (by simp)]
      exact ⟨false, rfl, fun h => by simp at h, fun h => absurd (h.1 i (by omega) (by omega)) hc⟩

theorem all_rd (l : List Int) (lo hi : Int) : (l.all fun x => decide (lo ≤ x) && decide (x ≤ hi)) = true ↔ ∀ i : Int, 0 ≤ i → i < l.length → lo ≤ rd l i ∧ rd l i ≤ hi := by
  rw [List.all_eq_true]
  constructor
  · intro h i h0 h1
    rw [rd_get h0 h1]
    have := h _ (List.getElem_mem (show i.toNat < l.length by omega))
    simpa using this
  · intro h x hx
    obtain ⟨n, hn, rfl⟩ := List.getElem_of_mem hx
    have := h (n : Int) (by omega) (by omega)
    rw [rd_get (by omega) (by omega)] at this
    simpa using this

theorem impl_are (l : List Int) (hl : l.length ≤ 140737488351232) (k : Nat) (hk : l.length + 3 < k) : impl_AreHoles.f k l = some (areH l) := by
  unfold impl_AreHoles.f impl_length_int64.f
  simp only [Option.bind_some, in_impl]
  obtain ⟨k, rfl⟩ : ∃ m, k = m + 1 := ⟨k - 1, by omega⟩
  by_cases h1 : (2 : Int) ≤ (l.length : Int) ∧ (l.length : Int) ≤ 12
  · rw [decide_eq_true h1, if_pos rfl]
    unfold impl_allIn.f
    simp only [Option.bind_some]
    by_cases h2 : (l.all fun x => decide ((0 : Int) ≤ x) && decide (x ≤ 20000)) = true
    · rw [h2]
      simp only [Bool.not_true, impl_AreHoles.j0]
      rw [if_neg (by simp)]
      obtain ⟨b, hb, hiff⟩ := impl_rises l hl l.length k 1 (by omega) (by omega) (by omega) (by omega)
      rw [hb]
      congr 1
      rw [Bool.eq_iff_iff, hiff, areH_true]
      exact ⟨fun h => ⟨by omega, by omega, (all_rd l 0 20000).1 h2, h⟩, fun h => h.2.2.2⟩
    · have h2' : (l.all fun x => decide ((0 : Int) ≤ x) && decide (x ≤ 20000)) = false := by simpa using h2
      rw [h2']
      simp only [Bool.not_false, impl_AreHoles.j0, if_true]
      congr 1
      symm
      rw [Bool.eq_false_iff]
      exact fun h => h2 ((all_rd l 0 20000).2 (areH_true.1 h).2.2.1)
  · rw [decide_eq_false h1, if_neg (by simp)]
    simp only [impl_AreHoles.j0, if_true]
    congr 1
    symm
    rw [Bool.eq_false_iff]
    exact fun h => h1 (by have := areH_true.1 h; exact ⟨by have := this.1; omega, by have := this.2.1; omega⟩)

theorem spec_are (l : List Int) (hl : l.length ≤ 140737488351232) (k : Nat) (hk : l.length + 3 < k) : spec_AreHoles.f k l = some (areH l) := by
  unfold spec_AreHoles.f
  by_cases h1 : (l.length : Int) ≥ 2
  · rw [if_pos h1]
    unfold spec_l01Rises.f
    obtain ⟨b, hb, hiff⟩ := spec_rises l hl l.length k 1 (by omega) (by omega) (by omega) (by omega)
    rw [hb]
    simp only [Option.bind_some]
    cases b with
    | true =>
      rw [if_pos rfl]
      unfold spec_l01Within.f
      obtain ⟨b2, hb2, hiff2⟩ := spec_within l 12 0 20000 hl l.length k 0 (by omega) (by omega) (by omega) (by omega)
      rw [hb2]
      simp only [Option.bind_some]
      congr 1
      rw [Bool.eq_iff_iff, hiff2, areH_true]
      exact ⟨fun h => ⟨by omega, by omega, h.1, hiff.1 rfl⟩, fun h => ⟨h.2.2.1, by have := h.2.1; omega⟩⟩
    | false =>
      rw [if_neg (by simp)]
      congr 1
      symm
      rw [Bool.eq_false_iff]
      exact fun h => by have := hiff.2 (areH_true.1 h).2.2.2; simp at this
  · rw [if_neg h1]
    congr 1
    symm
    rw [Bool.eq_false_iff]
    exact fun h => by have := (areH_true.1 h).1; omega

/-- Two lists alike. -/
theorem like_loop (a b : List Int) (hab : a.length = b.length) (hl : a.length ≤ 140737488351232) (d : Nat) : ∀ (k : Nat) (i : Int), 0 ≤ i → i ≤ a.length → (a.length : Int) - i = d → d < k →
    ∃ t, laws_likeInts.l0 k a b i = some t ∧ (t = true ↔ ∀ j : Int, i ≤ j → j < a.length → rd a j = rd b j) := by
  induction d with
  | zero =>
    intro k i h0 h1 hd hk
    obtain ⟨k, rfl⟩ : ∃ m, k = m + 1 := ⟨k - 1, by omega⟩
    exact ⟨true, by simp only [laws_likeInts.l0]; rw [if_neg (by omega)], fun _ j h2 h3 => by omega, fun _ => rfl⟩
  | succ d ih =>
    intro k i h0 h1 hd hk
    obtain ⟨k, rfl⟩ : ∃ m, k = m + 1 := ⟨k - 1, by omega⟩
    have e' : wrap64 (i + 1) = i + 1 := w64 (by omega) (by omega)
    simp only [laws_likeInts.l0]
    rw [if_pos (by omega), if_pos h0, if_pos (by omega), e']
    by_cases hc : rd a i = rd b i
    · rw [if_pos hc]
      obtain ⟨t, hb, hiff⟩ := ih k (i + 1) (by omega) (by omega) (by omega) (by omega)
      refine ⟨t, hb, hiff.trans ⟨fun h j h2 h3 => ?_, fun h j h2 h3 => h j (by omega) h3⟩⟩
      by_cases hj : j = i
      · subst hj; exact hc
      · exact h j (by omega) h3
    · rw [if_neg hc]
      exact ⟨false, rfl, fun h => by simp at h, fun h => absurd (h i (by omega) (by omega)) hc⟩
theorem rd_ext {a b : List Int} (hab : a.length = b.length) (h : ∀ j : Int, 0 ≤ j → j < a.length → rd a j = rd b j) : a = b := by
  apply List.ext_getElem hab
  intro n h1 h2
  have := h (n : Int) (by omega) (by omega)
  rwa [rd_get (by omega) (by omega), rd_get (by omega) (by omega)] at this
theorem like (a b : List Int) (hl : a.length ≤ 140737488351232) (k : Nat) (hk : a.length < k) : laws_likeInts.f k a b = some (decide (a = b)) := by
  unfold laws_likeInts.f
  by_cases hab : (a.length : Int) = (b.length : Int)
  · rw [if_pos hab]
    obtain ⟨t, ht, hiff⟩ := like_loop a b (by omega) hl a.length k 0 (by omega) (by omega) (by omega) hk
    rw [ht]
    congr 1
    rw [Bool.eq_iff_iff, hiff, decide_eq_true_eq]
    exact ⟨fun h => rd_ext (by omega) h, fun h j _ _ => by rw [h]⟩
  · rw [if_neg hab]
    congr 1
    symm
    rw [decide_eq_false_iff_not]
    exact fun h => hab (by rw [h])

/-! ### the inside of a section -/
theorem sums (l : List Int) (hH : Holes l) (d : Nat) : ∀ (k : Nat) (i x : Int), (l.length : Int) - i = 2 * d → 0 ≤ i → d < k →
    ((i = 0 ∧ x = 0) ∨ (2 ≤ i ∧ 0 < x ∧ x ≤ rd l (i - 1) - rd l 0)) →
    ∃ r, impl_InsideLength.l0 k l x i = some (r, 0) ∧ spec_InsideLength.l0 k l x i = some (r, 0) ∧ ((i < l.length ∨ 0 < i) → 0 < r ∧ r ≤ rd l ((l.length : Int) - 1) - rd l 0) := by
  obtain ⟨h2, h12, hv, hr⟩ := hH
  induction d with
  | zero =>
    intro k i x hd h0 hk hx
    obtain ⟨k, rfl⟩ : ∃ m, k = m + 1 := ⟨k - 1, by omega⟩
    refine ⟨x, by simp only [impl_InsideLength.l0]; rw [if_neg (by omega)], by simp only [spec_InsideLength.l0]; rw [if_neg (by omega)], fun _ => ?_⟩
    rcases hx with ⟨rfl, _⟩ | ⟨h3, h4, h5⟩
    · omega
    · rw [show (l.length : Int) - 1 = i - 1 from by omega]; exact ⟨h4, h5⟩
  | succ d ih =>
    intro k i x hd h0 hk hx
    obtain ⟨k, rfl⟩ : ∃ m, k = m + 1 := ⟨k - 1, by omega⟩
    have v0 := hv 0 (by omega) (by omega)
    have v1 := hv i h0 (by omega)
    have v2 := hv (i + 1) (by omega) (by omega)
    have r2 := hr (i + 1) (by omega) (by omega)
    rw [show i + 1 - 1 = i from by omega] at r2
    have e1 : wrap64 (i + 1) = i + 1 := w64 (by omega) (by omega)
    have e2 : wrap64 (i + 2) = i + 2 := w64 (by omega) (by omega)
    have hxb : 0 ≤ x ∧ x ≤ 20000 := by
      rcases hx with ⟨_, rfl⟩ | ⟨h3, h4, h5⟩
      · omega
      · have := hv (i - 1) (by omega) (by omega); omega
    have e3 : wrap64 (x + wrap64 (rd l (i + 1) - rd l i)) = x + (rd l (i + 1) - rd l i) := by rw [w64 (n := rd l (i + 1) - rd l i) (by omega) (by omega), w64 (by omega) (by omega)]
    have e4 : wrap64 (wrap64 (x + rd l (i + 1)) - rd l i) = x + (rd l (i + 1) - rd l i) := by rw [w64 (n := x + rd l (i + 1)) (by omega) (by omega), w64 (by omega) (by omega)]; omega
    obtain ⟨r, ha, hb, hc⟩ := ih k (i + 2) (x + (rd l (i + 1) - rd l i)) (by omega) (by omega) (by omega) (.inr ⟨by omega, by omega, by
      rw [show i + 2 - 1 = i + 1 from by omega]
      rcases hx with ⟨rfl, rfl⟩ | ⟨h3, h4, h5⟩
      · omega
      · have := hr i (by omega) (by omega); omega⟩)
    refine ⟨r, ?_, ?_, fun _ => hc (.inr (by omega))⟩
    · simp only [impl_InsideLength.l0]; rw [if_pos (by omega), e1, if_pos (by omega), if_pos (by omega), if_pos h0, e3, e2]; exact ha
    · simp only [spec_InsideLength.l0]; rw [if_pos (by omega), e1, if_pos (by omega), if_pos (by omega), if_pos h0, e4, e2]; exact hb

/-- What InsideLength hands back, on both sides. -/
theorem inside (l : List Int) (hl : l.length ≤ 100) : ∃ r c, (∀ k, 200 < k → impl_InsideLength.f k l = some (r, c)) ∧ (∀ k, 200 < k → spec_InsideLength.f k l = some (r, c)) ∧
    (c = 0 → 0 < l.length ∧ 0 < r ∧ r ≤ rd l ((l.length : Int) - 1) - rd l 0 ∧ Holes l) := by
  by_cases hH : Holes l
  · have ha := areH_true.2 hH
    by_cases ho : (l.length : Int) % 2 = 1
    · refine ⟨0, 5, fun k hk => ?_, fun k hk => ?_, fun h => by omega⟩
      · unfold impl_InsideLength.f; rw [impl_are l (by omega) k (by omega), ha]; simp only [Option.bind_some, if_true]; rw [if_pos ho]
      · unfold spec_InsideLength.f; rw [spec_are l (by omega) k (by omega), ha]; simp only [Option.bind_some, if_true]; rw [if_pos ho]
    · obtain ⟨r, h1, h2, h3⟩ := sums l hH (l.length / 2) 60 0 0 (by omega) (by omega) (by omega) (.inl ⟨rfl, rfl⟩)
      have h2l := hH.1
      refine ⟨r, 0, fun k hk => ?_, fun k hk => ?_, fun _ => ⟨by omega, (h3 (.inl (by omega))).1, (h3 (.inl (by omega))).2, hH⟩⟩
      · refine at_rounds (g := fun k => impl_InsideLength.f k l) (fun k => impl_InsideLength.mono l k) (show 130 ≤ k by omega) ?_
        show impl_InsideLength.f 130 l = _
        unfold impl_InsideLength.f; rw [impl_are l (by omega) 130 (by omega), ha]; simp only [Option.bind_some, if_true]; rw [if_neg ho]
        obtain ⟨r', h1', h2', _⟩ := sums l hH (l.length / 2) 130 0 0 (by omega) (by omega) (by omega) (.inl ⟨rfl, rfl⟩)
        rw [h1']
        have := (at_rounds (g := fun k => impl_InsideLength.l0 k l 0 0) (fun k => (impl_InsideLength.mono_l k) l 0 0) (show 60 ≤ 130 by omega) h1)
        rw [show impl_InsideLength.l0 130 l 0 0 = some (r', 0) from h1'] at this
        exact this
      · refine at_rounds (g := fun k => spec_InsideLength.f k l) (fun k => spec_InsideLength.mono l k) (show 130 ≤ k by omega) ?_
        show spec_InsideLength.f 130 l = _
        unfold spec_InsideLength.f; rw [spec_are l (by omega) 130 (by omega), ha]; simp only [Option.bind_some, if_true]; rw [if_neg ho]
        obtain ⟨r', h1', h2', _⟩ := sums l hH (l.length / 2) 130 0 0 (by omega) (by omega) (by omega) (.inl ⟨rfl, rfl⟩)
        rw [h2']
        have := (at_rounds (g := fun k => impl_InsideLength.l0 k l 0 0) (fun k => (impl_InsideLength.mono_l k) l 0 0) (show 60 ≤ 130 by omega) h1)
        rw [show impl_InsideLength.l0 130 l 0 0 = some (r', 0) from h1'] at this
        exact this
  · have ha : areH l = false := by rw [Bool.eq_false_iff]; exact fun h => hH (areH_true.1 h)
    refine ⟨0, 2, fun k hk => ?_, fun k hk => ?_, fun h => by omega⟩
    · unfold impl_InsideLength.f; rw [impl_are l (by omega) k (by omega), ha]; simp only [Option.bind_some]; rw [if_neg (by simp)]
    · unfold spec_InsideLength.f; rw [spec_are l (by omega) k (by omega), ha]; simp only [Option.bind_some]; rw [if_neg (by simp)]

/-! ### even holes -/
def evg (a n m : Int) (j : Nat) : Int := wrap64 (m + wrap64 ((wrap64 ((j : Int) * wrap64 (a - wrap64 (2 * m)))).tdiv (wrap64 (n - 1))))
def ev (a n m : Int) (i : Nat) : List Int := (List.range i).map (evg a n m)
theorem ev_succ (a n m : Int) (i : Nat) : ev a n m (i + 1) = ev a n m i ++ [evg a n m i] := by simp [ev, List.range_succ]
theorem ev_len (a n m : Int) (i : Nat) : (ev a n m i).length = i := by simp [ev]

theorem impl_even (a n m : Int) (hn : 2 ≤ n ∧ n ≤ 12) (d : Nat) : ∀ (k i : Nat), n - i = d → d + 20 < k →
    impl_EvenHoles.l0 k a n m (ev a n m i) n i = some (if areH (ev a n m n.toNat) = true then (ev a n m n.toNat, 0) else ([], 5)) := by
  have e1 : wrap64 (n - 1) = n - 1 := w64 (by omega) (by omega)
  induction d with
  | zero =>
    intro k i hd hk
    obtain ⟨k, rfl⟩ : ∃ m, k = m + 1 := ⟨k - 1, by omega⟩
    obtain rfl : i = n.toNat := by omega
    simp only [impl_EvenHoles.l0]
    rw [if_neg (by omega), impl_are _ (by rw [ev_len]; omega) k (by rw [ev_len]; omega)]
    simp only [Option.bind_some]
    split <;> rfl
  | succ d ih =>
    intro k i hd hk
    obtain ⟨k, rfl⟩ : ∃ m, k = m + 1 := ⟨k - 1, by omega⟩
    simp only [impl_EvenHoles.l0]
    have e2 : wrap64 ((i : Int) + 1) = ((i + 1 : Nat) : Int) := by rw [w64 (by omega) (by omega)]; omega
    rw [if_pos (by omega), if_neg (by rw [e1]; omega), if_pos (by rw [ev_len]; omega), e2]
    have := ih k (i + 1) (by omega) (by omega)
    rw [ev_succ] at this
    exact this
theorem spec_even (a n m : Int) (hn : 2 ≤ n ∧ n ≤ 12) (d : Nat) : ∀ (k i : Nat), n - i = d → d + 20 < k →
    spec_EvenHoles.l0 k a n m (ev a n m i) i = some (if areH (ev a n m n.toNat) = true then (ev a n m n.toNat, 0) else ([], 5)) := by
  have e1 : wrap64 (n - 1) = n - 1 := w64 (by omega) (by omega)
  induction d with
  | zero =>
    intro k i hd hk
    obtain ⟨k, rfl⟩ : ∃ m, k = m + 1 := ⟨k - 1, by omega⟩
    obtain rfl : i = n.toNat := by omega
    simp only [spec_EvenHoles.l0]
    rw [if_neg (by omega), spec_are _ (by rw [ev_len]; omega) k (by rw [ev_len]; omega)]
    simp only [Option.bind_some]
    split <;> rfl
  | succ d ih =>
    intro k i hd hk
    obtain ⟨k, rfl⟩ : ∃ m, k = m + 1 := ⟨k - 1, by omega⟩
    simp only [spec_EvenHoles.l0]
    have e2 : wrap64 ((i : Int) + 1) = ((i + 1 : Nat) : Int) := by rw [w64 (by omega) (by omega)]; omega
    rw [if_pos (by omega), if_neg (by rw [e1]; omega), if_pos (by rw [ev_len]; omega), e2]
    have := ih k (i + 1) (by omega) (by omega)
    rw [ev_succ] at this
    exact this
theorem rd_ev (a n m : Int) (i : Nat) (j : Nat) (h : j < i) : rd (ev a n m i) j = evg a n m j := by
  rw [rd_get (by omega) (by rw [ev_len]; omega)]
  simp [ev]
theorem evg_plain (a n m : Int) (ha : 1 ≤ a ∧ a ≤ 20000) (hn : 2 ≤ n ∧ n ≤ 12) (hm : 0 ≤ m ∧ m ≤ a) (j : Nat) (hj : j < 12) : evg a n m j = m + ((j : Int) * (a - 2 * m)).tdiv (n - 1) := by
  unfold evg
  have e1 : wrap64 (n - 1) = n - 1 := w64 (by omega) (by omega)
  have e2 : wrap64 (2 * m) = 2 * m := w64 (by omega) (by omega)
  have e3 : wrap64 (a - 2 * m) = a - 2 * m := w64 (by omega) (by omega)
  have b : -240000 ≤ (j : Int) * (a - 2 * m) ∧ (j : Int) * (a - 2 * m) ≤ 240000 := by
    have hj' : (j : Int) ≤ 11 := by omega
    have hj0 : (0 : Int) ≤ j := by omega
    constructor
    · have := Int.mul_le_mul_of_nonneg_left (show -20000 ≤ a - 2 * m by omega) hj0
      omega
    · have := Int.mul_le_mul_of_nonneg_left (show a - 2 * m ≤ 20000 by omega) hj0
      omega
  have e4 : wrap64 ((j : Int) * (a - 2 * m)) = (j : Int) * (a - 2 * m) := w64 (by omega) (by omega)
  have b2 : -240000 ≤ ((j : Int) * (a - 2 * m)).tdiv (n - 1) ∧ ((j : Int) * (a - 2 * m)).tdiv (n - 1) ≤ 240000 := by
    have q1 : (((j : Int) * (a - 2 * m)).tdiv (n - 1)).natAbs = ((j : Int) * (a - 2 * m)).natAbs / (n - 1).natAbs := Int.natAbs_tdiv ((j : Int) * (a - 2 * m)) (n - 1)
    have q2 := Nat.div_le_self ((j : Int) * (a - 2 * m)).natAbs (n - 1).natAbs
    omega
  rw [e1, e2, e3, e4, w64 (n := ((j : Int) * (a - 2 * m)).tdiv (n - 1)) (by omega) (by omega), w64 (by omega) (by omega)]
theorem ev_no (a n m : Int) (ha : 1 ≤ a ∧ a ≤ 20000) (hn : 2 ≤ n ∧ n ≤ 12) (hm : 0 ≤ m ∧ m ≤ a) (h : a < 2 * m) : areH (ev a n m n.toNat) = false := by
  rw [Bool.eq_false_iff]
  intro hh
  have := (areH_true.1 hh).2.2.2 1 (by omega) (by rw [ev_len]; omega)
  rw [show (1 : Int) - 1 = ((0 : Nat) : Int) from rfl, show (1 : Int) = ((1 : Nat) : Int) from rfl, rd_ev _ _ _ _ _ (by omega), rd_ev _ _ _ _ _ (by omega), evg_plain a n m ha hn hm _ (by omega), evg_plain a n m ha hn hm _ (by omega)] at this
  have h1 : ((0 : Nat) : Int) * (a - 2 * m) = 0 := by simp
  have h2 : ((1 : Nat) : Int) * (a - 2 * m) = a - 2 * m := by simp
  rw [h1, h2, Int.zero_tdiv] at this
  have h3 : (a - 2 * m).tdiv (n - 1) ≤ 0 := by
    have q := Int.tdiv_nonneg (a := 2 * m - a) (b := n - 1) (by omega) (by omega)
    rw [show a - 2 * m = -(2 * m - a) from by omega, Int.neg_tdiv]
    omega
  omega

/-- What EvenHoles hands back, on both sides. -/
theorem even (a n m : Int) : ∃ l c, (∀ k, 200 < k → impl_EvenHoles.f k a n m = some (l, c)) ∧ (∀ k, 200 < k → spec_EvenHoles.f k a n m = some (l, c)) ∧ l.length ≤ 12 ∧
    (c = 0 → Holes l ∧ rd l 0 = m ∧ rd l ((l.length : Int) - 1) = wrap64 (a - m)) := by
  have no : ∀ b : Bool, (∀ k, 200 < k → impl_EvenHoles.f k a n m = impl_EvenHoles.j0 k a n m b) → (∀ k, 200 < k → spec_EvenHoles.f k a n m = spec_EvenHoles.j0 k a n m b) → b = true →
      ∃ l c, (∀ k, 200 < k → impl_EvenHoles.f k a n m = some (l, c)) ∧ (∀ k, 200 < k → spec_EvenHoles.f k a n m = some (l, c)) ∧ l.length ≤ 12 ∧ (c = 0 → Holes l ∧ rd l 0 = m ∧ rd l ((l.length : Int) - 1) = wrap64 (a - m)) := by
    intro b h1 h2 hb
    subst hb
    refine ⟨[], 2, fun k hk => ?_, fun k hk => ?_, by simp, fun h => by omega⟩
    · rw [h1 k hk]
      obtain ⟨k, rfl⟩ : ∃ m, k = m + 1 := ⟨k - 1, by omega⟩
      simp only [impl_EvenHoles.j0, if_true]
    · rw [h2 k hk]
      obtain ⟨k, rfl⟩ : ∃ m, k = m + 1 := ⟨k - 1, by omega⟩
      simp only [spec_EvenHoles.j0, if_true]
  by_cases ha : (1 : Int) ≤ a ∧ a ≤ 20000
  · by_cases hn : (2 : Int) ≤ n ∧ n ≤ 12
    · by_cases hm : 0 ≤ m ∧ m ≤ a
      · have hi : ∀ k, 200 < k → impl_EvenHoles.f k a n m = some (if areH (ev a n m n.toNat) = true then (ev a n m n.toNat, 0) else ([], 5)) := by
          intro k hk
          unfold impl_EvenHoles.f
          rw [in_impl, decide_eq_true ha, in_impl, decide_eq_true hn, in_impl, decide_eq_true hm]
          simp only [Option.bind_some, if_true, Bool.not_true]
          obtain ⟨k, rfl⟩ : ∃ m, k = m + 1 := ⟨k - 1, by omega⟩
          simp only [impl_EvenHoles.j0]
          rw [if_neg (by simp)]
          exact impl_even a n m hn n.toNat k 0 (by omega) (by omega)
        have e2 : wrap64 (2 * m) = 2 * m := w64 (by omega) (by omega)
        have hs : ∀ k, 200 < k → spec_EvenHoles.f k a n m = some (if areH (ev a n m n.toNat) = true then (ev a n m n.toNat, 0) else ([], 5)) := by
          intro k hk
          unfold spec_EvenHoles.f
          rw [in_spec, decide_eq_true ha, in_spec, decide_eq_true hn, in_spec, decide_eq_true hm]
          simp only [Option.bind_some, if_true, Bool.not_true]
          obtain ⟨k, rfl⟩ : ∃ m, k = m + 1 := ⟨k - 1, by omega⟩
          simp only [spec_EvenHoles.j0]
          rw [if_neg (by simp), e2]
          by_cases h2 : 2 * m > a
          · rw [if_pos h2, ev_no a n m ha hn hm h2, if_neg (by simp)]
          · rw [if_neg h2]
            exact spec_even a n m hn n.toNat k 0 (by omega) (by omega)
        by_cases hh : areH (ev a n m n.toNat) = true
        · simp only [if_pos hh] at hi hs
          refine ⟨_, _, hi, hs, by rw [ev_len]; omega, fun _ => ⟨areH_true.1 hh, ?_, ?_⟩⟩
          · rw [show (0 : Int) = ((0 : Nat) : Int) from rfl, rd_ev _ _ _ _ _ (by omega), evg_plain a n m ha hn hm _ (by omega)]
            simp
          · rw [ev_len, show ((n.toNat : Nat) : Int) - 1 = ((n.toNat - 1 : Nat) : Int) from by omega, rd_ev _ _ _ _ _ (by omega), evg_plain a n m ha hn hm _ (by omega),
              show ((n.toNat - 1 : Nat) : Int) = n - 1 from by omega, Int.mul_tdiv_cancel_left _ (by omega), w64 (by omega) (by omega)]
            omega
        · simp only [if_neg hh] at hi hs
          exact ⟨_, _, hi, hs, by simp, fun h => by omega⟩
      · refine no (!false) (fun k hk => ?_) (fun k hk => ?_) rfl
        · unfold impl_EvenHoles.f
          rw [in_impl, decide_eq_true ha, in_impl, decide_eq_true hn, in_impl, decide_eq_false hm]
          simp only [Option.bind_some, if_true]
        · unfold spec_EvenHoles.f
          rw [in_spec, decide_eq_true ha, in_spec, decide_eq_true hn, in_spec, decide_eq_false hm]
          simp only [Option.bind_some, if_true]
    · refine no true (fun k hk => ?_) (fun k hk => ?_) rfl
      · unfold impl_EvenHoles.f
        rw [in_impl, decide_eq_true ha, in_impl, decide_eq_false hn]
        simp
      · unfold spec_EvenHoles.f
        rw [in_spec, decide_eq_true ha, in_spec, decide_eq_false hn]
        simp
  · refine no true (fun k hk => ?_) (fun k hk => ?_) rfl
    · unfold impl_EvenHoles.f
      rw [in_impl, decide_eq_false ha]
      simp
    · unfold spec_EvenHoles.f
      rw [in_spec, decide_eq_false ha]
      simp

/-! ### mirrored holes -/
def mirr (l : List Int) (h : Int) : List Int := (l.map fun x => wrap64 (h - x)).reverse
theorem mirr_len (l : List Int) (h : Int) : (mirr l h).length = l.length := by simp [mirr]
theorem rd_mirr (l : List Int) (h i : Int) (h0 : 0 ≤ i) (h1 : i < l.length) : rd (mirr l h) i = wrap64 (h - rd l ((l.length : Int) - 1 - i)) := by
  rw [rd_get h0 (by rw [mirr_len]; omega), rd_get (by omega) (by omega)]
  unfold mirr
  rw [List.getElem_reverse]
  simp only [List.getElem_map, List.length_map]
  congr 3
  omega
theorem spec_mirror_loop (l : List Int) (h : Int) (hl : l.length ≤ 100) (d : Nat) : ∀ (k : Nat) (i : Int) (acc : List Int), i + 1 = d → i < l.length → acc.length + d ≤ 100 → d < k →
    spec_MirrorHoles.l0 k l h acc i = some (acc ++ ((l.take d).map fun x => wrap64 (h - x)).reverse, 0) := by
  induction d with
  | zero =>
    intro k i acc hd h1 ha hk
    obtain ⟨k, rfl⟩ : ∃ m, k = m + 1 := ⟨k - 1, by omega⟩
    simp only [spec_MirrorHoles.l0]
    rw [if_neg (by omega)]
    simp
  | succ d ih =>
    intro k i acc hd h1 ha hk
    obtain ⟨k, rfl⟩ : ∃ m, k = m + 1 := ⟨k - 1, by omega⟩
    simp only [spec_MirrorHoles.l0]
    have e : wrap64 (i - 1) = i - 1 := w64 (by omega) (by omega)
    rw [if_pos (by omega), if_pos (by omega), if_pos h1, if_pos (by omega), e, ih k (i - 1) _ (by omega) (by omega) (by simp; omega) (by omega)]
    congr 1
    congr 1
    obtain rfl : i = (d : Int) := by omega
    rw [List.take_succ_eq_append_getElem (by omega), List.map_append, List.reverse_append, rd_get (by omega) h1]
    simp
theorem impl_mirror (l : List Int) (h : Int) (hl : l.length ≤ 100) (k : Nat) (hk : 200 < k) :
    impl_MirrorHoles.f k l h = some (if areH l = true ∧ rd l ((l.length : Int) - 1) ≤ h ∧ h ≤ 20000 then (mirr l h, 0) else ([], 2)) := by
  unfold impl_MirrorHoles.f
  rw [impl_are l (by omega) k (by omega)]
  simp only [Option.bind_some]
  by_cases hh : areH l = true
  · have := (areH_true.1 hh).1
    rw [if_pos hh, if_pos (by omega)]
    by_cases hr : rd l ((l.length : Int) - 1) ≤ h ∧ h ≤ 20000
    · rw [if_pos hr, if_pos ⟨hh, hr⟩]; rfl
    · rw [if_neg hr, if_neg (fun q => hr q.2)]
  · rw [if_neg hh, if_neg (fun q => hh q.1)]
theorem spec_mirror (l : List Int) (h : Int) (hl : l.length ≤ 100) (k : Nat) (hk : 200 < k) :
    spec_MirrorHoles.f k l h = some (if areH l = true ∧ rd l ((l.length : Int) - 1) ≤ h ∧ h ≤ 20000 then (mirr l h, 0) else ([], 2)) := by
  unfold spec_MirrorHoles.f
  rw [spec_are l (by omega) k (by omega)]
  simp only [Option.bind_some]
  obtain ⟨k, rfl⟩ : ∃ m, k = m + 1 := ⟨k - 1, by omega⟩
  by_cases hh : areH l = true
  · have h2 := (areH_true.1 hh).1
    have e : wrap64 ((l.length : Int) - 1) = (l.length : Int) - 1 := w64 (by omega) (by omega)
    rw [if_pos hh, e, if_pos (by omega), if_pos (by omega), in_spec]
    simp only [Option.bind_some]
    by_cases hr : rd l ((l.length : Int) - 1) ≤ h ∧ h ≤ 20000
    · rw [decide_eq_true hr, if_pos ⟨hh, hr⟩]
      simp only [spec_MirrorHoles.j0, Bool.not_true]
      rw [if_neg (by simp), e, spec_mirror_loop l h hl l.length k _ [] (by omega) (by omega) (by simp; omega) (by omega)]
      simp [mirr]
    · rw [decide_eq_false hr, if_neg (fun q => hr q.2)]
      simp only [spec_MirrorHoles.j0, Bool.not_false, if_true]
  · rw [if_neg hh, if_neg (fun q => hh q.1)]
    simp only [spec_MirrorHoles.j0, if_true]
theorem holes_le {l : List Int} (hH : Holes l) (d : Nat) : ∀ i j : Int, 0 ≤ i → j < l.length → j - i = d → rd l i ≤ rd l j := by
  induction d with
  | zero => intro i j h0 h1 hd; rw [show j = i from by omega]; omega
  | succ d ih =>
    intro i j h0 h1 hd
    have h := ih i (j - 1) h0 (by omega) (by omega)
    have h2 := hH.2.2.2 j (by omega) h1
    omega
theorem mirr_holes {l : List Int} {h : Int} (hH : Holes l) (hr : rd l ((l.length : Int) - 1) ≤ h ∧ h ≤ 20000) : Holes (mirr l h) ∧ rd (mirr l h) (((mirr l h).length : Int) - 1) ≤ h ∧ mirr (mirr l h) h = l := by
  have h2 := hH.1
  have hle : ∀ i : Int, 0 ≤ i → i < l.length → 0 ≤ rd l i ∧ rd l i ≤ h := fun i h0 h1 => ⟨(hH.2.2.1 i h0 h1).1, by
    have := holes_le hH ((l.length : Int) - 1 - i).toNat i ((l.length : Int) - 1) h0 (by omega) (by omega); omega⟩
  have hrm : ∀ i : Int, 0 ≤ i → i < l.length → rd (mirr l h) i = h - rd l ((l.length : Int) - 1 - i) := fun i h0 h1 => by
    rw [rd_mirr l h i h0 h1]
    have := hle ((l.length : Int) - 1 - i) (by omega) (by omega)
    exact w64 (by omega) (by omega)
  refine ⟨⟨by rw [mirr_len]; exact hH.1, by rw [mirr_len]; exact hH.2.1, fun i h0 h1 => ?_, fun i h0 h1 => ?_⟩, ?_, ?_⟩
  · rw [mirr_len] at h1
    rw [hrm i h0 h1]
    have := hle ((l.length : Int) - 1 - i) (by omega) (by omega)
    omega
  · rw [mirr_len] at h1
    rw [hrm i (by omega) h1, hrm (i - 1) (by omega) (by omega)]
    have := hH.2.2.2 ((l.length : Int) - 1 - (i - 1)) (by omega) (by omega)
    rw [show (l.length : Int) - 1 - (i - 1) - 1 = (l.length : Int) - 1 - i from by omega] at this
    omega
  · rw [mirr_len, hrm _ (by omega) (by omega)]
    have := hle ((l.length : Int) - 1 - ((l.length : Int) - 1)) (by omega) (by omega)
    omega
  · refine rd_ext (by rw [mirr_len, mirr_len]) fun i h0 h1 => ?_
    rw [mirr_len, mirr_len] at h1
    rw [rd_mirr _ _ _ h0 (by rw [mirr_len]; exact h1), mirr_len, hrm _ (by omega) (by omega), show (l.length : Int) - 1 - ((l.length : Int) - 1 - i) = i from by omega, show h - (h - rd l i) = rd l i from by omega]
    have := hle i h0 h1
    exact w64 (by omega) (by omega)

/-! ### the draws -/
theorem holes_loop (c : List Int) (d : Nat) : ∀ (k : Nat) (x3 : List Int) (x4 x5 a s : Int), x5 = d → 2 ≤ x3.length + d → x3.length + d ≤ 9 → d < k → St c a s →
    ∃ l a' s', spec_l16DrawHoles.l0 k x3 x4 x5 c a s = some (l, a', s') ∧ St c a' s' ∧ 1 ≤ l.length ∧ l.length ≤ 9 := by
  induction d with
  | zero =>
    intro k x3 x4 x5 a s hd h2 h9 hk hs
    obtain ⟨k, rfl⟩ : ∃ m, k = m + 1 := ⟨k - 1, by omega⟩
    simp only [spec_l16DrawHoles.l0]
    rw [if_neg (by omega)]
    obtain ⟨r, a1, s1, e, hs1, _, _, _⟩ := next_ok hs 40
    rw [e]
    simp only [Option.bind_some]
    by_cases r0 : r = 0
    · rw [if_pos r0, if_pos (by omega)]
      obtain ⟨p, a2, s2, e2, hs2, _⟩ := pick_ok hs1 ([-1, rd x3 1, 0] : List Int) (by simp) (by simp)
      rw [e2]
      simp only [Option.bind_some]
      rw [if_pos (by omega)]
      exact ⟨_, _, _, rfl, hs2, by simp; omega, by simp; omega⟩
    · rw [if_neg r0]
      by_cases r1 : r = 1
      · rw [if_pos r1]
        obtain ⟨p, a2, s2, e2, hs2, _⟩ := pick_ok hs1 ([20000, 20001] : List Int) (by simp) (by simp)
        rw [e2]
        simp only [Option.bind_some]
        have e : wrap64 ((x3.length : Int) - 1) = (x3.length : Int) - 1 := w64 (by omega) (by omega)
        rw [e, if_pos (by omega), if_pos (by omega)]
        exact ⟨_, _, _, rfl, hs2, by simp; omega, by simp; omega⟩
      · rw [if_neg r1]
        by_cases r2 : r = 2
        · rw [if_pos r2, if_pos (by omega)]
          exact ⟨_, _, _, rfl, hs1, by simp; omega, by simp; omega⟩
        · rw [if_neg r2]
          exact ⟨_, _, _, rfl, hs1, by omega, by omega⟩
  | succ d ih =>
    intro k x3 x4 x5 a s hd h2 h9 hk hs
    obtain ⟨k, rfl⟩ : ∃ m, k = m + 1 := ⟨k - 1, by omega⟩
    simp only [spec_l16DrawHoles.l0]
    rw [if_pos (by omega), if_pos (by omega)]
    obtain ⟨r, a1, s1, e, hs1, _, _, _⟩ := next_ok hs 300
    rw [e]
    simp only [Option.bind_some]
    have e5 : wrap64 (x5 - 1) = x5 - 1 := w64 (by omega) (by omega)
    rw [e5]
    exact ih k _ _ _ _ _ (by omega) (by simp; omega) (by simp; omega) (by omega) hs1
theorem draw_holes (c : List Int) (a s : Int) (hs : St c a s) : ∃ l a' s', (∀ k, 50 < k → spec_l16DrawHoles.f k c a s = some (l, a', s')) ∧ St c a' s' ∧ 1 ≤ l.length ∧ l.length ≤ 9 := by
  obtain ⟨r1, a1, s1, e1, hs1, _, _, _⟩ := next_ok hs 200
  obtain ⟨r2, a2, s2, e2, hs2, h20, h21, _⟩ := next_ok hs1 4
  obtain ⟨r3, a3, s3, e3, hs3, h30, h31, _⟩ := next_ok hs2 5
  have g2 := h21 (by omega)
  have w1 : wrap64 (1 + r2) = 1 + r2 := w64 (by omega) (by omega)
  have w2 : wrap64 (2 * (1 + r2)) = 2 * (1 + r2) := w64 (by omega) (by omega)
  have w3 : wrap64 (2 * (1 + r2) + 1) = 2 * (1 + r2) + 1 := w64 (by omega) (by omega)
  by_cases r0 : r3 = 0
  · obtain ⟨l, a', s', e, hs', h1, h9⟩ := holes_loop c (2 * (1 + r2) + 1).toNat 20 [] r1 (2 * (1 + r2) + 1) a3 s3 (by omega) (by simp; omega) (by simp; omega) (by omega) hs3
    refine ⟨l, a', s', fun k hk => ?_, hs', h1, h9⟩
    refine at_rounds (g := fun k => spec_l16DrawHoles.f k c a s) (fun k => spec_l16DrawHoles.mono c a s k) (show 21 ≤ k by omega) ?_
    show spec_l16DrawHoles.f 21 c a s = _
    unfold spec_l16DrawHoles.f
    simp only [Option.bind_some, e1, e2, e3, w1, w2, w3, r0, if_true]
    simp only [spec_l16DrawHoles.j0]
    exact e
  · obtain ⟨l, a', s', e, hs', h1, h9⟩ := holes_loop c (2 * (1 + r2)).toNat 20 [] r1 (2 * (1 + r2)) a3 s3 (by omega) (by simp; omega) (by simp; omega) (by omega) hs3
    refine ⟨l, a', s', fun k hk => ?_, hs', h1, h9⟩
    refine at_rounds (g := fun k => spec_l16DrawHoles.f k c a s) (fun k => spec_l16DrawHoles.mono c a s k) (show 21 ≤ k by omega) ?_
    show spec_l16DrawHoles.f 21 c a s = _
    unfold spec_l16DrawHoles.f
    simp only [Option.bind_some, e1, e2, e3, w1, w2, r0, if_false]
    simp only [spec_l16DrawHoles.j0]
    exact e
theorem draw_mirror (c : List Int) (hb : ∀ i, 0 ≤ rd c i ∧ rd c i ≤ 255) (hl : (c.length : Int) ≤ 140737488351232) : ∃ l h, (∀ k, 100 < k → spec_DrawMirrorHoles.f k c = some (l, h)) ∧ l.length ≤ 9 := by
  obtain ⟨s, e0, hs⟩ := from_ok c hb hl
  obtain ⟨l, a1, s1, e1, hs1, h1, h9⟩ := draw_holes c 0 s hs
  have w1 : wrap64 ((l.length : Int) - 1) = (l.length : Int) - 1 := w64 (by omega) (by omega)
  obtain ⟨r2, a2, s2, e2, hs2, _, _, _⟩ := next_ok hs1 200
  obtain ⟨r3, a3, s3, e3, hs3, _, _, _⟩ := next_ok hs2 2
  obtain ⟨p, a4, s4, e4, hs4, _⟩ := pick_ok hs3 [rd l ((l.length : Int) - 1), wrap64 (rd l ((l.length : Int) - 1) + r2), wrap64 (rd l ((l.length : Int) - 1) - 1), wrap64 (20000 + r3)] (by simp) (by simp)
  refine ⟨l, p, fun k hk => ?_, h9⟩
  unfold spec_DrawMirrorHoles.f
  rw [e0 k (by omega)]
  simp only [Option.bind_some]
  rw [e1 k (by omega)]
  simp only [Option.bind_some, w1]
  rw [if_pos (by omega), if_pos (by omega), e2]
  simp only [Option.bind_some, e3, e4]
theorem draw_even (c : List Int) (hb : ∀ i, 0 ≤ rd c i ∧ rd c i ≤ 255) (hl : (c.length : Int) ≤ 140737488351232) : ∃ a n m, ∀ k, 100 < k → spec_DrawEvenHoles.f k c = some (a, n, m) := by
  obtain ⟨s, e0, hs⟩ := from_ok c hb hl
  obtain ⟨r1, a1, s1, e1, hs1, _, _, _⟩ := next_ok hs 10
  by_cases r0 : r1 = 0
  · obtain ⟨p2, a2, s2, e2, hs2, _⟩ := pick_ok hs1 [0, 1, 20000, 20001] (by simp) (by simp)
    obtain ⟨p3, a3, s3, e3, hs3, _⟩ := pick_ok hs2 [1, 2, 12, 13] (by simp) (by simp)
    obtain ⟨p4, a4, s4, e4, hs4, _⟩ := pick_ok hs3 [-1, 0, 1] (by simp) (by simp)
    refine ⟨p2, p3, p4, fun k hk => ?_⟩
    unfold spec_DrawEvenHoles.f
    rw [e0 k (by omega)]
    simp only [Option.bind_some, e1, r0, if_true, e2, e3, e4]
  · obtain ⟨r2, a2, s2, e2, hs2, _, _, _⟩ := next_ok hs1 3000
    obtain ⟨r3, a3, s3, e3, hs3, _, _, _⟩ := next_ok hs2 8
    obtain ⟨p4, a4, s4, e4, hs4, hp4⟩ := pick_ok hs3 [2, 3, 1] (by simp) (by simp)
    obtain ⟨r5, a5, s5, e5, hs5, _, _, _⟩ := next_ok hs4 (wrap64 (wrap64 ((wrap64 (1 + r2)).tdiv p4) + 2))
    have hp : p4 ≠ 0 := by simp at hp4; omega
    refine ⟨wrap64 (1 + r2), wrap64 (2 + r3), r5, fun k hk => ?_⟩
    unfold spec_DrawEvenHoles.f
    rw [e0 k (by omega)]
    simp only [Option.bind_some, e1, r0, if_false, e2, e3, e4, hp, e5]
theorem draw_inside (c : List Int) (hb : ∀ i, 0 ≤ rd c i ∧ rd c i ≤ 255) (hl : (c.length : Int) ≤ 140737488351232) : ∃ l, (∀ k, 100 < k → spec_DrawInsideLength.f k c = some l) ∧ l.length ≤ 9 := by
  obtain ⟨s, e0, hs⟩ := from_ok c hb hl
  obtain ⟨l, a1, s1, e1, hs1, h1, h9⟩ := draw_holes c 0 s hs
  refine ⟨l, fun k hk => ?_, h9⟩
  unfold spec_DrawInsideLength.f
  rw [e0 k (by omega)]
  simp only [Option.bind_some]
  rw [e1 k (by omega)]
  simp only [Option.bind_some]

theorem FnHoles : laws_FnHoles.Pure := by
  intro c hm hl hw
  have hb := bytes_of hw
  refine ⟨1000, ?_⟩
  unfold laws_FnHoles.f laws_big.f
  simp only [Option.bind_some]
  by_cases h4 : (c.length : Int) > 4096
  · rw [decide_eq_true h4, if_pos rfl]
  rw [decide_eq_false h4, if_neg (by simp)]
  obtain ⟨holes, high, e1, hl1⟩ := draw_mirror c hb (by omega)
  obtain ⟨a, n, m, e2⟩ := draw_even c hb (by omega)
  obtain ⟨x, e3, hl3⟩ := draw_inside c hb (by omega)
  obtain ⟨e, c1, e4, e5, hl5, h5⟩ := even a n m
  obtain ⟨r, c2, e6, e7, h7⟩ := inside x (by omega)
  rw [e1 1000 (by omega)]
  simp only [Option.bind_some]
  rw [impl_mirror holes high (by omega) 1000 (by omega), spec_mirror holes high (by omega) 1000 (by omega)]
  obtain ⟨q, hq⟩ : ∃ q, q = (if areH holes = true ∧ rd holes ((holes.length : Int) - 1) ≤ high ∧ high ≤ 20000 then (mirr holes high, (0 : Int)) else ([], 2)) := ⟨_, rfl⟩
  rw [← hq]
  have hql : q.1.length ≤ 100 := by rw [hq]; split <;> simp [mirr_len]; omega
  simp only [Option.bind_some]
  rw [e2 1000 (by omega)]
  simp only [Option.bind_some]
  rw [e4 1000 (by omega)]
  simp only [Option.bind_some]
  rw [e5 1000 (by omega)]
  simp only [Option.bind_some]
  rw [e3 1000 (by omega)]
  simp only [Option.bind_some]
  rw [e6 1000 (by omega)]
  simp only [Option.bind_some]
  rw [e7 1000 (by omega)]
  simp only [Option.bind_some, if_true]
  rw [like q.1 q.1 (by omega) 1000 (by omega)]
  simp only [Option.bind_some, decide_true, if_true]
  rw [like e e (by omega) 1000 (by omega)]
  simp only [Option.bind_some, decide_true, if_true]
  rw [impl_are x (by omega) 1000 (by omega), spec_are x (by omega) 1000 (by omega)]
  simp only [Option.bind_some, bne_self_eq_false]
  have last : laws_FnHoles.j2 998 holes high q.1 q.2 false = some true := by
    simp only [laws_FnHoles.j2]
    rw [if_neg (by simp)]
    by_cases hc : areH holes = true ∧ rd holes ((holes.length : Int) - 1) ≤ high ∧ high ≤ 20000
    · rw [if_pos hc] at hq
      subst hq
      rw [if_pos rfl]
      obtain ⟨g1, g2, g3⟩ := mirr_holes (areH_true.1 hc.1) hc.2
      rw [impl_mirror _ _ (by rw [mirr_len]; omega) 997 (by omega), if_pos ⟨areH_true.2 g1, g2, hc.2.2⟩]
      simp only [Option.bind_some, if_true]
      rw [g3, like holes holes (by omega) 997 (by omega)]
      simp
    · rw [if_neg hc] at hq
      subst hq
      rw [if_neg (by simp)]
  have mid : ∀ b : Bool, b = false → laws_FnHoles.j1 999 holes high q.1 q.2 x r c2 b = some true := by
    intro b hb
    subst hb
    simp only [laws_FnHoles.j1]
    rw [if_neg (by simp)]
    by_cases hc : c2 = 0
    · obtain ⟨g1, g2, g3, g4⟩ := h7 hc
      have w1 : wrap64 ((x.length : Int) - 1) = (x.length : Int) - 1 := w64 (by omega) (by omega)
      have v1 := g4.2.2.1 ((x.length : Int) - 1) (by omega) (by omega)
      have v0 := g4.2.2.1 0 (by omega) (by omega)
      have w2 : wrap64 (rd x ((x.length : Int) - 1) - rd x 0) = rd x ((x.length : Int) - 1) - rd x 0 := w64 (by omega) (by omega)
      rw [if_pos hc, if_neg (by omega), w1, if_pos (by omega), if_pos (by omega), if_pos (by omega), w2, decide_eq_false (by omega)]
      exact last
    · rw [if_neg hc]
      exact last
  simp only [laws_FnHoles.j0]
  rw [if_neg (by simp)]
  by_cases hc : c1 = 0
  · obtain ⟨g1, g2, g3⟩ := h5 hc
    have g12 := g1.1
    have w1 : wrap64 ((e.length : Int) - 1) = (e.length : Int) - 1 := w64 (by omega) (by omega)
    rw [if_pos hc, if_pos (by omega), if_pos g2, w1, if_pos (by omega), if_pos (by omega), if_pos g3, impl_are e (by omega) 999 (by omega), areH_true.2 g1]
    simp only [Option.bind_some, Bool.not_true]
    exact mid false rfl
  · rw [if_neg hc]
    exact mid false rfl
end Go.Proofs.Ytkcbihfhbojckaa.Pure
