/- FnLinesOfBooks: for every code the answer is true: a book without faults is right, and the busiest station has the most faults; program and reference agree. No conditions. -/
import Derived.Test.YthfegojffgblmaaX13
import Derived.Test.YthfegojffgblmaaPDraw
import Derived.Test.YthfegojffgblmaaPureLines
namespace Go.Proofs.Ythfegojffgblmaa.Pure
open Go.RowKit Go.Proofs.Ythfegojffgblmaa.X Go.Proofs.YthfegojffgblmaaW.PrintWords Go.Proofs.YthfegojffgblmaaW.PrintLast
set_option linter.unusedVariables false
set_option linter.unusedSimpArgs false

-- the draws
theorem draw_many (c : List Int) (n : Int) (t : Nat) : ∀ (i k : Nat) (x7 : List S54) (a s : Int), i + t = 21 → t + 1 ≤ k → x7.length ≤ i → St c a s → ∃ n' m' l' a' s', spec_l14Draw.l1 k n x7 (i : Int) c a s = some (n', m', l', a', s') ∧ l'.length ≤ 30 := by
  induction t with
  | zero =>
    intro i k x7 a s hi hk hx hs
    obtain ⟨k, rfl⟩ : ∃ m, k = m + 1 := ⟨k - 1, by omega⟩
    obtain ⟨r, a1, s1, e1, hs1, h0, h1, _⟩ := next_ok hs 2
    have h1 := h1 (by omega)
    simp only [spec_l14Draw.l1]
    rw [e1, Option.bind_some]
    simp only
    rw [sw (by omega) (by omega), if_neg (by omega)]
    exact ⟨_, _, _, _, _, rfl, by omega⟩
  | succ t ih =>
    intro i k x7 a s hi hk hx hs
    obtain ⟨k, rfl⟩ : ∃ m, k = m + 1 := ⟨k - 1, by omega⟩
    obtain ⟨r, a1, s1, e1, hs1, h0, h1, _⟩ := next_ok hs 2
    have h1 := h1 (by omega)
    simp only [spec_l14Draw.l1]
    rw [e1, Option.bind_some]
    simp only
    rw [sw (x := 20 + r) (by omega) (by omega)]
    by_cases c0 : (i : Int) < 20 + r
    · rw [if_pos c0, Option.bind_some, if_pos (by simp; omega), sw (by omega) (by omega)]
      exact ih (i + 1) k _ a1 s1 (by omega) (by omega) (by simp; omega) hs1
    · rw [if_neg c0]
      exact ⟨_, _, _, _, _, rfl, by omega⟩
theorem draw_faults (c : List Int) (n m : Int) (hn : 1 ≤ n) (d : Nat) : ∀ (k : Nat) (x7 : List S54) (a s : Int), d ≤ 4 → 2 * d + 1100 ≤ k → x7.length + d ≤ 10 → St c a s → ∃ n' m' l' a' s', spec_l14Draw.l0 k n m x7 (d : Int) c a s = some (n', m', l', a', s') ∧ l'.length ≤ 30 := by
  induction d with
  | zero =>
    intro k x7 a s hd hk hx hs
    obtain ⟨k, rfl⟩ : ∃ q, k = q + 1 := ⟨k - 1, by omega⟩
    obtain ⟨r, a1, s1, e1, hs1, _⟩ := next_ok hs 40
    simp only [spec_l14Draw.l0]
    rw [if_neg (by omega), e1, Option.bind_some]
    simp only
    by_cases c0 : r = 0
    · rw [if_pos c0]
      obtain ⟨p, a2, s2, e2, hs2, _⟩ := pick_ok hs1 ([0, 12, 13] : List Int) (by simp) (by simp)
      rw [e2, Option.bind_some]
      exact ⟨_, _, _, _, _, rfl, by omega⟩
    · rw [if_neg c0]
      by_cases c1 : r = 1
      · rw [if_pos c1]
        obtain ⟨p, a2, s2, e2, hs2, _⟩ := pick_ok hs1 ([(-1), 40, 41] : List Int) (by simp) (by simp)
        rw [e2, Option.bind_some]
        exact ⟨_, _, _, _, _, rfl, by omega⟩
      · rw [if_neg c1]
        by_cases c2 : r = 2
        · rw [if_pos c2]
          obtain ⟨p, a2, s2, e2, hs2, _⟩ := pick_ok hs1 ([0, 1, 5] : List Int) (by simp) (by simp)
          rw [e2, Option.bind_some]
          simp only
          obtain ⟨p3, a3, s3, e3, hs3, _⟩ := pick_ok hs2 ([0, 1, (-1)] : List Int) (by simp) (by simp)
          rw [e3, Option.bind_some, Option.bind_some, if_pos (by simp; omega)]
          exact ⟨_, _, _, _, _, rfl, by simp; omega⟩
        · rw [if_neg c2]
          by_cases c3 : r = 3
          · rw [if_pos c3]
            exact draw_many c n 21 0 k [] a1 s1 (by omega) (by omega) (by simp) hs1
          · rw [if_neg c3]
            exact ⟨_, _, _, _, _, rfl, by omega⟩
  | succ d ih =>
    intro k x7 a s hd hk hx hs
    obtain ⟨k, rfl⟩ : ∃ q, k = q + 2 := ⟨k - 2, by omega⟩
    obtain ⟨r1, a1, s1, e1, hs1, _⟩ := next_ok hs m
    obtain ⟨r2, a2, s2, e2, hs2, _⟩ := next_ok hs1 n
    obtain ⟨r3, a3, s3, e3, hs3, h30, h31, _⟩ := next_ok hs2 4
    have hj : ∀ (a s : Int) (f0 f1 f2 f3 : Int), St c a s → ∃ n' m' l' a' s', spec_l14Draw.j1 (k + 1) n m x7 ((d + 1 : Nat) : Int) c a s f0 f1 f2 f3 = some (n', m', l', a', s') ∧ l'.length ≤ 30 := by
      intro a s f0 f1 f2 f3 hs
      have hdd : wrap64 (((d + 1 : Nat) : Int) - 1) = (d : Int) := by rw [sw (by omega) (by omega)]; omega
      simp only [spec_l14Draw.j1]
      rw [Option.bind_some, if_pos (by simp; omega), Option.bind_some, Option.bind_some, if_pos (by simp; omega), areFaults_eq n m _ k (by omega) (by simp; omega), hdd]
      unfold impl_AreFaults.f
      rw [Option.bind_some]
      split
      · rw [Option.bind_some, if_pos (by simp; omega)]
        exact ih k _ a s (by omega) (by omega) (by simp; omega) hs
      · obtain ⟨r, a1, s1, e1, hs1, _⟩ := next_ok hs 30
        rw [e1, Option.bind_some]
        simp only
        split
        · rw [Option.bind_some, if_pos (by simp; omega)]
          exact ih k _ a1 s1 (by omega) (by omega) (by simp; omega) hs1
        · exact ih k _ a1 s1 (by omega) (by omega) (by omega) hs1
    simp only [spec_l14Draw.l0]
    rw [if_pos (by omega), e1, Option.bind_some]
    simp only
    rw [e2, Option.bind_some]
    simp only
    rw [e3, Option.bind_some]
    simp only
    by_cases c4 : wrap64 (1 + r3) = 4
    · rw [if_pos c4]
      obtain ⟨r4, a4, s4, e4, hs4, _⟩ := next_ok hs3 (wrap64 (n - 1))
      rw [e4, Option.bind_some]
      simp only
      rw [if_neg (by omega)]
      exact hj _ _ _ _ _ _ hs4
    · rw [if_neg c4]
      exact hj _ _ _ _ _ _ hs3
theorem draw_ok (c : List Int) (hb : ∀ i, 0 ≤ rd c i ∧ rd c i ≤ 255) (hl : (c.length : Int) ≤ 140737488351232) (k : Nat) (hk : 2000 < k) : ∃ n m l, spec_DrawWrongBooks.f k c = some (n, m, l) ∧ l.length ≤ 30 := by
  obtain ⟨s, e, hs⟩ := from_ok c hb hl
  obtain ⟨r1, a1, s1, e1, hs1, h10, h11, _⟩ := next_ok hs 6
  obtain ⟨r2, a2, s2, e2, hs2, _⟩ := next_ok hs1 8
  obtain ⟨r3, a3, s3, e3, hs3, h30, h31, _⟩ := next_ok hs2 5
  have h11 := h11 (by omega)
  have h31 := h31 (by omega)
  have hw : wrap64 (1 + r1) = 1 + r1 := sw (by omega) (by omega)
  obtain ⟨n', m', l', a', s', e4, h4⟩ := draw_faults c (1 + r1) r2 (by omega) r3.toNat k [] a3 s3 (by omega) (by omega) (by simp; omega) hs3
  rw [show ((r3.toNat : Nat) : Int) = r3 by omega] at e4
  unfold spec_DrawWrongBooks.f spec_l14Draw.f
  rw [e k (by omega), Option.bind_some]
  simp only
  rw [e1, Option.bind_some]
  simp only
  rw [e2, Option.bind_some]
  simp only
  rw [e3, Option.bind_some]
  simp only
  rw [hw, e4, Option.bind_some]
  exact ⟨n', m', l', rfl, h4⟩

-- the busiest station
def cs (l : List S54) (s : Int) : Nat → Nat
  | 0 => 0
  | i + 1 => cs l s i + if (rd_T54 l i).f1 = s then 1 else 0
theorem cs_le (l : List S54) (s : Int) : ∀ i, cs l s i ≤ i
  | 0 => Nat.le_refl _
  | i + 1 => by have := cs_le l s i; simp only [cs]; split <;> omega
theorem bump_is (N : Nat) (l : List S54) (hl : l.length ≤ 20) (hv : ∀ i : Nat, i < l.length → 0 ≤ (rd_T54 l i).f1 ∧ (rd_T54 l i).f1 < (N : Int)) : ∀ i, i ≤ l.length → ∀ s : Nat, s < N → rd (bumpTo N l i) (s : Int) = ((cs l s i : Nat) : Int)
  | 0, _, s, hs => by
    rw [rd_at _ s (by rw [bumpTo_len]; exact hs)]
    simp [bumpTo, cs]
  | i + 1, h, s, hs => by
    have ih := bump_is N l hl hv i (by omega)
    have hlen := bumpTo_len N l i
    obtain ⟨h0, h1⟩ := hv i (by omega)
    have hcl := cs_le l s i
    rw [rd_at _ s (by rw [bumpTo_len]; exact hs)]
    simp only [bumpTo, bump, cs]
    obtain ⟨f, hf⟩ : ∃ f : Nat, (f : Int) = (rd_T54 l i).f1 := ⟨(rd_T54 l i).f1.toNat, by omega⟩
    simp only [← hf]
    rw [List.getElem_set]
    by_cases c : f = s
    · subst c
      rw [if_pos (by simp), if_pos rfl, ih f hs, sw (by omega) (by omega)]
      omega
    · rw [if_neg (by simpa using c), if_neg (by omega), ← rd_at _ s (by rw [hlen]; exact hs), ih s hs]
      rfl
theorem mxd_is (M : List Int) (b : Nat) (N : Nat) (hb : b ≤ N) (h1 : ∀ j : Nat, j ≤ N → rd M j ≤ rd M b) : mxd M N = rd M b := by
  have hge : ∀ d : Nat, d ≤ N → mxd M d ≤ rd M b ∧ ∀ j : Nat, j ≤ d → rd M j ≤ mxd M d := by
    intro d
    induction d with
    | zero => intro _; exact ⟨h1 0 (by omega), fun j hj => by have e : j = 0 := (by omega); subst e; exact Int.le_refl _⟩
    | succ d ih =>
      intro hd
      obtain ⟨g1, g2⟩ := ih (by omega)
      have g3 := h1 (d + 1) hd
      simp only [mxd]
      refine ⟨by unfold mx; split <;> omega, fun j hj => ?_⟩
      by_cases c : j = d + 1
      · subst c; unfold mx; split <;> omega
      · have := g2 j (by omega)
        unfold mx; split <;> omega
  obtain ⟨g1, g2⟩ := hge N (Nat.le_refl _)
  have := g2 b hb
  omega
theorem index_first (M : List Int) (b : Nat) (hb : b < M.length) (hl : M.length ≤ 1000) (hno : ∀ j : Nat, j < b → rd M j ≠ rd M b) (d : Nat) : ∀ (i k : Nat), i + d = b → d + 1 ≤ k → slices_Index_int64_int64.l0 k M (rd M b) (M.length : Int) (i : Int) = some (b : Int) := by
  induction d with
  | zero =>
    intro i k hi hk
    obtain ⟨k, rfl⟩ : ∃ m, k = m + 1 := ⟨k - 1, by omega⟩
    obtain rfl : i = b := by omega
    simp only [slices_Index_int64_int64.l0]
    rw [if_pos (by omega), if_pos (by omega), if_pos (by omega), if_pos trivial]
  | succ d ih =>
    intro i k hi hk
    obtain ⟨k, rfl⟩ : ∃ m, k = m + 1 := ⟨k - 1, by omega⟩
    have hne := hno i (by omega)
    simp only [slices_Index_int64_int64.l0]
    rw [if_pos (by omega), if_pos (by omega), if_pos (by omega), if_neg (fun h => hne h.symm), sw (by omega) (by omega)]
    exact ih (i + 1) k (by omega) (by omega)
theorem best_loop (M : List Int) (hl : M.length ≤ 1000) (h0 : 0 < M.length) (d : Nat) : ∀ (i b k : Nat), i + d = M.length → d + 1 ≤ k → b < M.length → b ≤ i → (∀ j : Nat, j < i → rd M j ≤ rd M b) → (∀ j : Nat, j < b → rd M j < rd M b) → ∃ b' : Nat, b' < M.length ∧ spec_BusiestStation.l1 k M (b : Int) (i : Int) = some ((b' : Int), rd M b', 0) ∧ (∀ j : Nat, j < M.length → rd M j ≤ rd M b') ∧ (∀ j : Nat, j < b' → rd M j < rd M b') := by
  induction d with
  | zero =>
    intro i b k hi hk hb hbi h1 h2
    obtain ⟨k, rfl⟩ : ∃ m, k = m + 1 := ⟨k - 1, by omega⟩
    refine ⟨b, hb, ?_, fun j hj => h1 j (by omega), h2⟩
    simp only [spec_BusiestStation.l1]
    rw [if_neg (by omega), if_pos (by omega), if_pos (by omega)]
  | succ d ih =>
    intro i b k hi hk hb hbi h1 h2
    obtain ⟨k, rfl⟩ : ∃ m, k = m + 1 := ⟨k - 1, by omega⟩
    simp only [spec_BusiestStation.l1]
    rw [if_pos (by omega), if_pos (by omega), if_pos (by omega), if_pos (by omega), sw (by omega) (by omega)]
    by_cases c : rd M i > rd M b
    · rw [if_pos c]
      refine ih (i + 1) i k (by omega) (by omega) (by omega) (by omega) (fun j hj => ?_) (fun j hj => ?_)
      · by_cases e : j = i
        · subst e; exact Int.le_refl _
        · have := h1 j (by omega); omega
      · have := h1 j hj; omega
    · rw [if_neg c]
      refine ih (i + 1) b k (by omega) (by omega) hb (by omega) (fun j hj => ?_) h2
      by_cases e : j = i
      · subst e; omega
      · exact h1 j (by omega)
theorem bumps_loop (N : Nat) (l : List S54) (hl : l.length ≤ 20) (hN : N ≤ 12) (hv : ∀ i : Nat, i < l.length → 0 ≤ (rd_T54 l i).f1 ∧ (rd_T54 l i).f1 < (N : Int)) (d : Nat) : ∀ (i k : Nat), i + d = l.length → d + 1 ≤ k → ∃ k', k ≤ k' + d + 1 ∧ spec_BusiestStation.l0 k l (bumpTo N l i) (i : Int) = spec_BusiestStation.l1 k' (bumpTo N l l.length) 0 0 := by
  induction d with
  | zero =>
    intro i k hi hk
    obtain ⟨k, rfl⟩ : ∃ m, k = m + 1 := ⟨k - 1, by omega⟩
    refine ⟨k, by omega, ?_⟩
    simp only [spec_BusiestStation.l0]
    rw [if_neg (by omega), show i = l.length by omega]
  | succ d ih =>
    intro i k hi hk
    obtain ⟨k, rfl⟩ : ∃ m, k = m + 1 := ⟨k - 1, by omega⟩
    have hlen := bumpTo_len N l i
    obtain ⟨h0, h1⟩ := hv i (by omega)
    obtain ⟨k', hk', e⟩ := ih (i + 1) k (by omega) (by omega)
    refine ⟨k', by omega, ?_⟩
    simp only [spec_BusiestStation.l0]
    rw [if_pos (by omega), if_pos (by omega), if_pos h0, if_pos (by rw [hlen]; exact h1), sw (x := (i : Int) + 1) (by omega) (by omega)]
    exact e
theorem busiest (N : Nat) (m : Int) (l : List S54) (h1 : 1 ≤ N) (hN : N ≤ 12) (hl : l.length ≤ 20) (hv : ∀ i : Nat, i < l.length → 0 ≤ (rd_T54 l i).f1 ∧ (rd_T54 l i).f1 < (N : Int)) (k : Nat) (hk : 1000 ≤ k) (hs : spec_l14Code.f k (N : Int) m l = some 0) (hi : impl_checkFaults.f (N : Int) m l = some 0) :
    ∃ b : Nat, b < N ∧ spec_BusiestStation.f k (N : Int) m l = some ((b : Int), ((cs l b l.length : Nat) : Int), 0) ∧ impl_BusiestStation.f (N : Int) m l = some ((b : Int), ((cs l b l.length : Nat) : Int), 0) := by
  have hlen := bumpTo_len N l l.length
  obtain ⟨k', hk', e⟩ := bumps_loop N l hl hN hv l.length 0 k (by omega) (by omega)
  rw [show ((0 : Nat) : Int) = 0 from rfl] at e
  obtain ⟨b, hb, e2, h3, h4⟩ := best_loop (bumpTo N l l.length) (by omega) (by omega) (bumpTo N l l.length).length 0 0 k' (by omega) (by omega) (by omega) (Nat.le_refl _) (fun j hj => absurd hj (by omega)) (fun j hj => absurd hj (by omega))
  rw [show ((0 : Nat) : Int) = 0 from rfl] at e2
  rw [hlen] at hb h3
  have hcb := bump_is N l hl hv l.length (Nat.le_refl _) b hb
  have hmx : mxd (bumpTo N l l.length) (N - 1) = rd (bumpTo N l l.length) b := mxd_is _ b (N - 1) (by omega) (fun j hj => h3 j (by omega))
  have hix := index_first (bumpTo N l l.length) b (by omega) (by omega) (fun j hj => by have := h4 j hj; omega) b 0 (N + 5) (by omega) (by omega)
  rw [show ((0 : Nat) : Int) = 0 from rfl] at hix
  refine ⟨b, hb, ?_, ?_⟩
  · unfold spec_BusiestStation.f
    rw [hs, Option.bind_some, if_pos rfl, if_pos (by omega), if_pos (by omega), Int.toNat_natCast, show List.replicate N 0 = bumpTo N l 0 from rfl, e, e2, hcb]
  · unfold impl_BusiestStation.f slices_Index_int64_int64.f
    rw [hi, Option.bind_some, if_pos rfl, Int.toNat_natCast, hmx, hix, Option.bind_some, hcb]

-- the law's own loops
theorem like_loop (a b : List Int) (hab : a.length = b.length) (hl : a.length ≤ 2000000) (d : Nat) : ∀ (k i : Nat), i + d = a.length → d < k → ∃ q, laws_likeInts.l0 k a b (i : Int) = some q ∧ (q = true ↔ ∀ j : Nat, i ≤ j → j < a.length → rd a j = rd b j) := by
  induction d with
  | zero =>
    intro k i hi hk
    obtain ⟨k, rfl⟩ : ∃ m, k = m + 1 := ⟨k - 1, by omega⟩
    simp only [laws_likeInts.l0]
    rw [if_neg (by omega)]
    exact ⟨true, rfl, by simp; intro j h1 h2; omega⟩
  | succ d ih =>
    intro k i hi hk
    obtain ⟨k, rfl⟩ : ∃ m, k = m + 1 := ⟨k - 1, by omega⟩
    simp only [laws_likeInts.l0]
    rw [if_pos (by omega), if_pos (by omega), if_pos (by omega), sw (by omega) (by omega)]
    by_cases c : rd a i = rd b i
    · rw [if_pos c]
      obtain ⟨q, e, hq⟩ := ih k (i + 1) (by omega) (by omega)
      refine ⟨q, e, hq.trans ⟨fun h j h1 h2 => ?_, fun h j h1 h2 => h j (by omega) h2⟩⟩
      by_cases hj : j = i
      · rw [hj]; exact c
      · exact h j (by omega) h2
    · rw [if_neg c]
      refine ⟨false, rfl, ?_⟩
      constructor
      · intro h; simp at h
      · intro h; exact absurd (h i (Nat.le_refl _) (by omega)) c
theorem like_ok (a b : List Int) (hl : a.length ≤ 2000000) (k : Nat) (hk : a.length < k) : laws_likeInts.f k a b = some (decide (a = b)) := by
  unfold laws_likeInts.f
  by_cases hab : a.length = b.length
  · rw [if_pos (by omega)]
    obtain ⟨q, e, hq⟩ := like_loop a b hab hl a.length k 0 (by omega) hk
    rw [show ((0 : Nat) : Int) = 0 from rfl] at e
    rw [e]
    congr 1
    rw [Bool.eq_iff_iff, hq]
    simp only [decide_eq_true_eq]
    exact ⟨fun h => rd_ext' hab (fun j hj => h j (by omega) hj), fun h => by rw [h]; intro j _ _; rfl⟩
  · rw [if_neg (by omega), decide_eq_false (fun h => hab (by rw [h]))]
theorem has_loop (l : List Int) (a : Int) (hl : l.length ≤ 2000000) (d : Nat) : ∀ (k i : Nat), i + d = l.length → d < k → ∃ q, laws_hasInt.l0 k l a (i : Int) = some q ∧ (q = true ↔ ∃ j : Nat, i ≤ j ∧ j < l.length ∧ a = rd l j) := by
  induction d with
  | zero =>
    intro k i h hk
    obtain ⟨k, rfl⟩ : ∃ m, k = m + 1 := ⟨k - 1, by omega⟩
    simp only [laws_hasInt.l0]
    rw [if_neg (by omega)]
    exact ⟨false, rfl, by constructor; intro h; simp at h; rintro ⟨j, h1, h2, _⟩; omega⟩
  | succ d ih =>
    intro k i h hk
    obtain ⟨k, rfl⟩ : ∃ m, k = m + 1 := ⟨k - 1, by omega⟩
    simp only [laws_hasInt.l0]
    rw [if_pos (by omega), if_pos (by omega), sw (by omega) (by omega)]
    by_cases c : rd l i = a
    · rw [if_pos c]
      exact ⟨true, rfl, by constructor; intro _; exact ⟨i, Nat.le_refl _, by omega, c.symm⟩; intro _; rfl⟩
    · rw [if_neg c]
      obtain ⟨q, e, hq⟩ := ih k (i + 1) (by omega) (by omega)
      refine ⟨q, e, hq.trans ⟨fun ⟨j, h1, h2, h3⟩ => ⟨j, by omega, h2, h3⟩, fun ⟨j, h1, h2, h3⟩ => ?_⟩⟩
      by_cases hj : j = i
      · exact absurd (hj ▸ h3).symm c
      · exact ⟨j, by omega, h2, h3⟩
theorem has_ok (l : List Int) (a : Int) (hl : l.length ≤ 2000000) (k : Nat) (hk : l.length < k) : laws_hasInt.f k l a = some (decide (a ∈ l)) := by
  obtain ⟨q, e, h⟩ := has_loop l a hl l.length k 0 (by omega) hk
  unfold laws_hasInt.f
  rw [show ((0 : Nat) : Int) = 0 from rfl] at e
  rw [e]
  congr 1
  rw [Bool.eq_iff_iff, h, decide_eq_true_eq]
  constructor
  · rintro ⟨j, _, hj, rfl⟩
    rw [rd_at l j hj]
    exact List.getElem_mem hj
  · intro hm
    obtain ⟨j, hj, e⟩ := List.getElem_of_mem hm
    exact ⟨j, Nat.zero_le _, hj, by rw [rd_at l j hj]; exact e.symm⟩
theorem no_fault (l : List S54) (N : Nat) (hN : N ≤ 12) (b : Int) (h : ∀ i : Nat, i < l.length → (rd_T54 l i).f0 ≠ b) : blockTo l b N = rbTo N := by
  have : ∀ s, s ≤ N → blockTo l b s = rbTo s := by
    intro s
    induction s with
    | zero => intro _; rfl
    | succ s ih =>
      intro hs
      simp only [blockTo, rbTo]
      rw [ih (by omega)]
      congr 1
      unfold stat
      rcases idx_cases (hereF b s) l 0 with ⟨g1, _⟩ | ⟨j, hj, _, g2⟩
      · rw [g1, if_pos (by omega), sw (by omega) (by omega)]
      · exfalso
        unfold hereF at g2
        rw [Bool.and_eq_true] at g2
        have := of_decide_eq_true g2.1
        rw [← rdT l j hj] at this
        exact h j hj this
  exact this N (Nat.le_refl _)
theorem count_loop (l : List S54) (r : Nat) (hl : l.length ≤ 20) (d : Nat) : ∀ (i k : Nat), i + d = l.length → d + 1 ≤ k → laws_FnLinesOfBooks.l2 k l (r : Int) ((cs l r l.length : Nat) : Int) ((cs l r i : Nat) : Int) (i : Int) = some true := by
  induction d with
  | zero =>
    intro i k hi hk
    obtain ⟨k, rfl⟩ : ∃ m, k = m + 1 := ⟨k - 1, by omega⟩
    simp only [laws_FnLinesOfBooks.l2]
    rw [if_neg (by omega), show i = l.length by omega]
    simp
  | succ d ih =>
    intro i k hi hk
    obtain ⟨k, rfl⟩ : ∃ m, k = m + 1 := ⟨k - 1, by omega⟩
    have hc := cs_le l r i
    have hn := ih (i + 1) k (by omega) (by omega)
    simp only [cs] at hn
    simp only [laws_FnLinesOfBooks.l2]
    rw [if_pos (by omega), if_pos (by omega), sw (x := (i : Int) + 1) (by omega) (by omega), sw (x := ((cs l r i : Nat) : Int) + 1) (by omega) (by omega)]
    by_cases c : (rd_T54 l i).f1 = (r : Int)
    · rw [if_pos c] at hn ⊢
      exact hn
    · rw [if_neg c] at hn ⊢
      exact hn
theorem some_loop (N M : Nat) (l : List S54) (hl : l.length ≤ 20) (w : List Int) (r most : Int) (bs : List (List Int)) (own : List Int) (b : Nat) (d : Nat) : ∀ (i k : Nat) (x26 : Bool), i + d = l.length → d + 1 ≤ k → (x26 = true ↔ ∃ j, j < i ∧ (rd_T54 l j).f0 = (b : Int)) → ∃ k' y, k ≤ k' + d ∧ (y = true ↔ ∃ j, j < l.length ∧ (rd_T54 l j).f0 = (b : Int)) ∧ laws_FnLinesOfBooks.l1 k (M : Int) l w r most bs own (b : Int) x26 (i : Int) = laws_FnLinesOfBooks.l1 k' (M : Int) l w r most bs own (b : Int) y (l.length : Int) := by
  induction d with
  | zero =>
    intro i k x26 hi hk hx
    obtain rfl : i = l.length := by omega
    exact ⟨k, x26, by omega, hx, rfl⟩
  | succ d ih =>
    intro i k x26 hi hk hx
    obtain ⟨k, rfl⟩ : ∃ m, k = m + 1 := ⟨k - 1, by omega⟩
    have hstep : laws_FnLinesOfBooks.l1 (k + 1) (M : Int) l w r most bs own (b : Int) x26 (i : Int) = laws_FnLinesOfBooks.l1 k (M : Int) l w r most bs own (b : Int) (x26 || decide ((rd_T54 l i).f0 = (b : Int))) ((i : Int) + 1) := by
      rw [laws_FnLinesOfBooks.l1]
      rw [if_pos (by omega), sw (x := (i : Int) + 1) (by omega) (by omega)]
      cases x26 with
      | true => rw [if_pos rfl]; rfl
      | false =>
        rw [if_neg (by simp), if_pos (by omega)]
        congr 1
    rw [hstep]
    obtain ⟨k', y, h1, h2, h3⟩ := ih (i + 1) k (x26 || decide ((rd_T54 l i).f0 = (b : Int))) (by omega) (by omega) (by
      rw [Bool.or_eq_true, decide_eq_true_eq, hx]
      constructor
      · rintro (⟨j, h1, h2⟩ | h)
        · exact ⟨j, by omega, h2⟩
        · exact ⟨i, by omega, h⟩
      · rintro ⟨j, h1, h2⟩
        by_cases c : j = i
        · subst c; exact .inr h2
        · exact .inl ⟨j, by omega, h2⟩)
    exact ⟨k', y, by omega, h2, h3⟩
theorem law_loop (N M : Nat) (hN : N ≤ 12) (hM : M ≤ 40) (l : List S54) (hl : l.length ≤ 20) (r : Nat) (d : Nat) : ∀ (b k : Nat), b + d = M → 30 * d + 200 ≤ k → laws_FnLinesOfBooks.l0 k (M : Int) l (wrongTo l N M) (r : Int) ((cs l r l.length : Nat) : Int) (booksTo l N M) (rbTo N) (b : Int) = some true := by
  induction d with
  | zero =>
    intro b k hb hk
    obtain ⟨k, rfl⟩ : ∃ m, k = m + 1 := ⟨k - 1, by omega⟩
    simp only [laws_FnLinesOfBooks.l0]
    rw [if_neg (by omega)]
    have := count_loop l r hl l.length 0 k (by omega) (by omega)
    simpa [cs] using this
  | succ d ih =>
    intro b k hb hk
    obtain ⟨k, rfl⟩ : ∃ m, k = m + 1 := ⟨k - 1, by omega⟩
    have hbl := blockTo_len l b N
    have hwl := wrongTo_len l N M
    have hkl := booksTo_len l N M
    simp only [laws_FnLinesOfBooks.l0]
    rw [if_pos (by omega)]
    obtain ⟨k', y, h1, h2, h3⟩ := some_loop N M l hl (wrongTo l N M) r ((cs l r l.length : Nat) : Int) (booksTo l N M) (rbTo N) b l.length 0 k false (by omega) (by omega) (by simp)
    rw [show ((0 : Nat) : Int) = 0 from rfl] at h3
    rw [h3]
    obtain ⟨k', rfl⟩ : ∃ m, k' = m + 1 := ⟨k' - 1, by omega⟩
    have hnext := ih (b + 1) k' (by omega) (by omega)
    rw [laws_FnLinesOfBooks.l1, if_neg (by omega), if_pos (by omega), if_pos (by omega), rd_books l N M b (by omega), like_ok _ _ (by omega) k' (by omega), Option.bind_some, has_ok _ _ (by omega) k' (by omega), Option.bind_some, Option.bind_some, sw (x := (b : Int) + 1) (by omega) (by omega)]
    by_cases c : blockTo l b N = rbTo N
    · have hnm : ¬ (b : Int) ∈ wrongTo l N M := by
        rw [mem_wrong]
        rintro ⟨b', _, e, h⟩
        have : b' = b := by omega
        subst this
        exact h c
      rw [decide_eq_true c, decide_eq_false hnm, if_neg (by simp), if_neg (by simp)]
      exact hnext
    · have hm : (b : Int) ∈ wrongTo l N M := (mem_wrong l N).2 ⟨b, by omega, rfl, c⟩
      have hy : y = true := by
        rw [h2]
        by_cases e : ∃ j, j < l.length ∧ (rd_T54 l j).f0 = (b : Int)
        · exact e
        · exact absurd (no_fault l N hN b (fun i hi he => e ⟨i, hi, he⟩)) c
      rw [decide_eq_false c, decide_eq_true hm, if_neg (by simp), if_pos rfl, if_pos hy]
      exact hnext
theorem right_both (m : Int) (k : Nat) (hk : 1000 ≤ k) : ∃ r : List Int × Int, impl_RightBlock.f k m = some r ∧ spec_RightBlock.f k m = some r ∧ r.1.length ≤ 12 ∧ (1 ≤ m ∧ m ≤ 12 → r = (rbTo m.toNat, 0)) := by
  unfold impl_RightBlock.f spec_RightBlock.f spec_l14Line.f
  rw [isLine_is, inS, inS]
  simp only [Option.bind_some]
  by_cases h : 1 ≤ m ∧ m ≤ 12
  · obtain ⟨N, hN⟩ : ∃ N : Nat, N = m.toNat := ⟨_, rfl⟩
    have hm : m = (N : Int) := by omega
    rw [← hN]
    subst hm
    have hr := right_loop N (by omega) N k 0 (by omega) (by omega)
    rw [show ((0 : Nat) : Int) = 0 from rfl] at hr
    have hr' : impl_rightBlock.f k (N : Int) = some (rbTo N) := hr
    have hs := block_f N (by omega) 0 [] (by simp) (fun i j _ hj => absurd hj (by simp)) k hk
    rw [right_blockTo N (by omega)] at hs
    have hd : (decide (1 ≤ (N : Int)) && decide ((N : Int) ≤ 12)) = true := by rw [decide_eq_true h.1, decide_eq_true h.2]; rfl
    rw [hd]
    refine ⟨(rbTo N, 0), ?_, ?_, by rw [rbTo_len]; omega, fun _ => rfl⟩
    · rw [if_pos (by simp), hr', Option.bind_some]
    · rw [if_pos rfl, Option.bind_some, if_pos (by simp), hs, Option.bind_some]
  · have hd : (decide (1 ≤ m) && decide (m ≤ 12)) = false := by
      rw [Bool.and_eq_false_iff]
      by_cases h1 : 1 ≤ m
      · exact .inr (decide_eq_false (by omega))
      · exact .inl (decide_eq_false h1)
    rw [hd]
    exact ⟨([], 2), by simp, by simp, by simp, fun h' => absurd h' h⟩
theorem draw_right (c : List Int) (hb : ∀ i, 0 ≤ rd c i ∧ rd c i ≤ 255) (hl : (c.length : Int) ≤ 140737488351232) (k : Nat) (hk : 2000 < k) : ∃ m, spec_DrawRightBlock.f k c = some m := by
  obtain ⟨s, e, hs⟩ := from_ok c hb hl
  obtain ⟨r1, a1, s1, e1, hs1, _⟩ := next_ok hs 15
  unfold spec_DrawRightBlock.f
  rw [e k (by omega), Option.bind_some]
  simp only
  rw [e1, Option.bind_some]
  exact ⟨_, rfl⟩
theorem FnLinesOfBooks : laws_FnLinesOfBooks.Pure := by
  intro l0 hmax _ hbytes
  obtain ⟨K, hK⟩ : ∃ K, K = 10000 := ⟨_, rfl⟩
  refine ⟨K + 2, ?_⟩
  unfold laws_FnLinesOfBooks.f laws_big.f
  rw [Option.bind_some]
  by_cases hbig : (l0.length : Int) > 4096
  · rw [if_pos (decide_eq_true hbig)]
  rw [if_neg (by simpa using hbig)]
  obtain ⟨n, m, l, hd, hl⟩ := draw_ok l0 (bytes_of hbytes) (by omega) (K + 2) (by omega)
  obtain ⟨q, hq⟩ := draw_right l0 (bytes_of hbytes) (by omega) (K + 2) (by omega)
  obtain ⟨rr, hr1, hr2, hr3, _⟩ := right_both q (K + 2) (by omega)
  have hlr := like_ok rr.1 rr.1 (by omega) (K + 2) (by omega)
  rw [decide_eq_true rfl] at hlr
  rw [hd, Option.bind_some]
  simp only
  have hare := areFaults_eq n m l (K + 2) (by omega) (by omega)
  obtain ⟨A, hA⟩ : ∃ A, impl_AreFaults.f n m l = some A := ⟨_, rfl⟩
  rw [hA] at hare
  obtain ⟨L, hL⟩ : ∃ L, L = ((decide (1 ≤ n) && decide (n ≤ 12)) && (decide (0 ≤ m) && decide (m ≤ 40))) := ⟨_, rfl⟩
  have hline : impl_isLine.f n m = some L := by rw [isLine_is, hL]
  have hsline : spec_l14Line.f n m = some L := by
    unfold spec_l14Line.f
    rw [inS, inS, hL]
    simp only [Option.bind_some]
    cases (decide (1 ≤ n) && decide (n ≤ 12)) <;> simp
  -- the code
  obtain ⟨cd, hcd⟩ : ∃ cd : Int, cd = if L = true then (if A = true then 0 else 1) else 2 := ⟨_, rfl⟩
  have hcode : spec_l14Code.f (K + 2) n m l = some cd := by
    unfold spec_l14Code.f
    rw [hsline, Option.bind_some, hare, hcd]
    cases L <;> cases A <;> simp
  have hchk : impl_checkFaults.f n m l = some cd := by
    unfold impl_checkFaults.f
    rw [hline, Option.bind_some, hA, hcd]
    cases L <;> cases A <;> simp
  have hLA : A = true → L = true := by
    intro h
    rw [h] at hA
    obtain ⟨v1, v2, _⟩ := valid_of hA
    rw [hL, decide_eq_true v1.1, decide_eq_true v1.2, decide_eq_true v2.1, decide_eq_true v2.2]
    rfl
  by_cases hAt : A = true
  · have hLt := hLA hAt
    have hcd0 : cd = 0 := by rw [hcd, hLt, hAt]; rfl
    rw [hcd0] at hcode hchk
    rw [hAt] at hA
    obtain ⟨v1, v2, v3, v4, v5⟩ := valid_of hA
    obtain ⟨N, hN⟩ : ∃ N : Nat, N = n.toNat := ⟨_, rfl⟩
    have hn : n = (N : Int) := by omega
    obtain ⟨M, hM⟩ : ∃ M : Nat, M = m.toNat := ⟨_, rfl⟩
    have hm : m = (M : Int) := by omega
    subst hn
    subst hm
    obtain ⟨b, hb, hb1, hb2⟩ := busiest N (M : Int) l (by omega) (by omega) v3 v5 (K + 2) (by omega) hcode hchk
    have hga : impl_gather.f (N : Int) (M : Int) l = some (booksTo l N M) := by
      unfold impl_gather.f
      rw [if_pos (by omega), Int.toNat_natCast, Int.toNat_natCast]
    have hiw : impl_WrongBooks.f (K + 2) (N : Int) (M : Int) l = some (wrongTo l N M, 0) := by
      unfold impl_WrongBooks.f
      rw [hchk, Option.bind_some, if_pos rfl, hga, Option.bind_some, booksTo_len]
      exact iwrong_loop N M (by omega) (by omega) l M 0 (K + 2) (by omega) (by omega)
    have hsw : spec_WrongBooks.f (K + 2) (N : Int) (M : Int) l = some (wrongTo l N M, 0) := by
      unfold spec_WrongBooks.f
      rw [hcode, Option.bind_some, if_pos rfl, block_f N (by omega) 0 [] (by simp) (fun i j _ hj => absurd hj (by simp)) (K + 2) (by omega), Option.bind_some, right_blockTo N (by omega)]
      exact swrong_loop N M (by omega) (by omega) l v3 v4 M 0 (K + 2) (by omega) (by omega)
    have hwl := wrongTo_len l N M
    have hlw := like_ok (wrongTo l N M) (wrongTo l N M) (by omega) (K + 2) (by omega)
    rw [decide_eq_true rfl] at hlw
    have hgb : impl_GatherBooks.f (N : Int) (M : Int) l = some (booksTo l N M, 0) := by
      unfold impl_GatherBooks.f
      rw [hchk, Option.bind_some, if_pos rfl, hga, Option.bind_some]
    rw [hiw, Option.bind_some, hsw, Option.bind_some, hb2, Option.bind_some, hb1, Option.bind_some, hq, Option.bind_some, hr1, Option.bind_some, hr2, Option.bind_some]
    simp only [if_true]
    rw [hlw, Option.bind_some]
    simp only [if_true]
    rw [hlr, Option.bind_some]
    simp only [if_true]
    rw [hA, Option.bind_some]
    simp only [laws_FnLinesOfBooks.j0]
    obtain ⟨r2, hr21, _, _, hr24⟩ := right_both (N : Int) (K + 1) (by omega)
    have hr25 := hr24 (by omega)
    rw [Int.toNat_natCast] at hr25
    rw [if_neg (by simp), hgb, Option.bind_some, hr21, Option.bind_some, hr25]
    simp only [if_true]
    rw [booksTo_len]
    simp only [laws_FnLinesOfBooks.j1]
    rw [if_neg (by simp)]
    exact law_loop N M (by omega) (by omega) l v3 b M 0 K (by omega) (by omega)
  · have hAf : A = false := by simpa using hAt
    have hcdn : ¬ cd = 0 := by rw [hcd, hAf]; cases L <;> simp
    have hiw : impl_WrongBooks.f (K + 2) n m l = some ([], cd) := by
      unfold impl_WrongBooks.f
      rw [hchk, Option.bind_some, if_neg hcdn]
    have hsw : spec_WrongBooks.f (K + 2) n m l = some ([], cd) := by
      unfold spec_WrongBooks.f
      rw [hcode, Option.bind_some, if_neg hcdn]
    have hib : impl_BusiestStation.f n m l = some (0, 0, cd) := by
      unfold impl_BusiestStation.f
      rw [hchk, Option.bind_some, if_neg hcdn]
    have hsb : spec_BusiestStation.f (K + 2) n m l = some (0, 0, cd) := by
      unfold spec_BusiestStation.f
      rw [hcode, Option.bind_some, if_neg hcdn]
    have hlw := like_ok [] [] (by simp) (K + 2) (by simp)
    rw [decide_eq_true rfl] at hlw
    rw [hiw, Option.bind_some, hsw, Option.bind_some, hib, Option.bind_some, hsb, Option.bind_some, hq, Option.bind_some, hr1, Option.bind_some, hr2, Option.bind_some]
    simp only [if_true]
    rw [hlw, Option.bind_some]
    simp only [if_true]
    rw [hlr, Option.bind_some]
    simp only [if_true]
    rw [hA, Option.bind_some, hAf]
    simp only [laws_FnLinesOfBooks.j0]
    rw [if_neg (by simpa using hcdn), if_neg hcdn]
end Go.Proofs.Ythfegojffgblmaa.Pure
