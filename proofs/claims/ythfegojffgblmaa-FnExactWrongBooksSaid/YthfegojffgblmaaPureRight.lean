/- Small laws for the books: lists compared, the first place of a fault, the right block. No conditions. -/
import Derived.Test.YthfegojffgblmaaX5
import Derived.Test.YthfegojffgblmaaX7
import Derived.Test.YthfegojffgblmaaX7
import Derived.Test.YthfegojffgblmaaEFaultFind
namespace Go.Proofs.Ythfegojffgblmaa.Pure
open Go.RowKit Go.Proofs.Ythfegojffgblmaa.X Go.Proofs.YthfegojffgblmaaW.PrintWords Go.Proofs.YthfegojffgblmaaW.PrintLast
set_option linter.unusedVariables false
set_option linter.unusedSimpArgs false

theorem sw {x : Int} (h1 : -1000000000000 ≤ x) (h2 : x ≤ 1000000000000) : wrap64 x = x := by unfold wrap64; omega

theorem same_loop (a b : List Int) (hab : a.length = b.length) (hl : a.length ≤ 1000000) (d : Nat) : ∀ (k i : Nat), i + d = a.length → d < k → ∃ q, spec_l01Same.l0 k a b (i : Int) = some q ∧ (q = true ↔ ∀ j : Nat, i ≤ j → j < a.length → rd a j = rd b j) := by
  induction d with
  | zero =>
    intro k i hi hk
    obtain ⟨k, rfl⟩ : ∃ m, k = m + 1 := ⟨k - 1, by omega⟩
    simp only [spec_l01Same.l0]
    rw [if_neg (by omega)]
    exact ⟨true, rfl, by simp; intro j h1 h2; omega⟩
  | succ d ih =>
    intro k i hi hk
    obtain ⟨k, rfl⟩ : ∃ m, k = m + 1 := ⟨k - 1, by omega⟩
    simp only [spec_l01Same.l0]
    have w1 : wrap64 ((i : Int) + 1) = ((i + 1 : Nat) : Int) := by unfold wrap64; omega
    rw [if_pos (by omega), if_pos (by omega), if_pos (by omega), w1]
    by_cases c : rd a i = rd b i
    · rw [if_pos c]
      obtain ⟨q, e, hq⟩ := ih k (i + 1) (by omega) (by omega)
      refine ⟨q, e, hq.trans ⟨fun h j h1 h2 => ?_, fun h j h1 h2 => h j (by omega) h2⟩⟩
      by_cases hj : j = i
      · rw [hj]; exact c
      · exact h j (by omega) h2
    · rw [if_neg c]
      refine ⟨false, rfl, ?_⟩
      constructor
      · intro h; simp at h
      · intro h; exact absurd (h i (Nat.le_refl _) (by omega)) c
theorem rd_ext' {a b : List Int} (hab : a.length = b.length) (h : ∀ j : Nat, j < a.length → rd a j = rd b j) : a = b := by
  apply List.ext_getElem hab
  intro j h1 h2
  have := h j h1
  unfold rd at this
  simpa [List.getD_eq_getElem?_getD, h1, h2] using this
theorem same_ok (a b : List Int) (hl : a.length ≤ 1000000) (k : Nat) (hk : a.length < k) : spec_l01Same.f k a b = some (decide (a = b)) := by
  unfold spec_l01Same.f
  by_cases hab : a.length = b.length
  · rw [if_pos (by omega)]
    obtain ⟨q, e, hq⟩ := same_loop a b hab hl a.length k 0 (by omega) hk
    rw [show ((0 : Nat) : Int) = 0 from rfl] at e
    rw [e]
    congr 1
    rw [Bool.eq_iff_iff, hq]
    simp only [decide_eq_true_eq]
    exact ⟨fun h => rd_ext' hab (fun j hj => h j (by omega) hj), fun h => by rw [h]; intro j _ _; rfl⟩
  · rw [if_neg (by omega), decide_eq_false (fun h => hab (by rw [h]))]

theorem rd_at (l : List Int) (i : Nat) (h : i < l.length) : rd l i = l[i] := by
  unfold rd
  simp [List.getD_eq_getElem?_getD, h]
theorem eq_loop (a b : List Int) (hab : a.length = b.length) (hl : a.length ≤ 1000000) (d : Nat) : ∀ (k i : Nat), i + d = a.length → d < k → ∃ q, slices_Equal_int64_int64.l0 k a b (a.length : Int) (i : Int) = some q ∧ (q = true ↔ ∀ j : Nat, i ≤ j → j < a.length → rd a j = rd b j) := by
  induction d with
  | zero =>
    intro k i hi hk
    obtain ⟨k, rfl⟩ : ∃ m, k = m + 1 := ⟨k - 1, by omega⟩
    simp only [slices_Equal_int64_int64.l0]
    rw [if_neg (by omega)]
    exact ⟨true, rfl, by simp; intro j h1 h2; omega⟩
  | succ d ih =>
    intro k i hi hk
    obtain ⟨k, rfl⟩ : ∃ m, k = m + 1 := ⟨k - 1, by omega⟩
    simp only [slices_Equal_int64_int64.l0]
    have w1 : wrap64 ((i : Int) + 1) = ((i + 1 : Nat) : Int) := by unfold wrap64; omega
    rw [if_pos (by omega), if_pos (by omega), if_pos (by omega), if_pos (by omega), w1]
    by_cases c : rd a i = rd b i
    · rw [if_pos c]
      obtain ⟨q, e, hq⟩ := ih k (i + 1) (by omega) (by omega)
      refine ⟨q, e, hq.trans ⟨fun h j h1 h2 => ?_, fun h j h1 h2 => h j (by omega) h2⟩⟩
      by_cases hj : j = i
      · rw [hj]; exact c
      · exact h j (by omega) h2
    · rw [if_neg c]
      refine ⟨false, rfl, ?_⟩
      constructor
      · intro h; simp at h
      · intro h; exact absurd (h i (Nat.le_refl _) (by omega)) c
theorem eq_ok (a b : List Int) (hl : a.length ≤ 1000000) (k : Nat) (hk : a.length < k) : slices_Equal_int64_int64.f k a b = some (decide (a = b)) := by
  unfold slices_Equal_int64_int64.f
  by_cases hab : a.length = b.length
  · rw [if_pos (by omega)]
    obtain ⟨q, e, hq⟩ := eq_loop a b hab hl a.length k 0 (by omega) hk
    rw [show ((0 : Nat) : Int) = 0 from rfl] at e
    rw [e]
    congr 1
    rw [Bool.eq_iff_iff, hq]
    simp only [decide_eq_true_eq]
    constructor
    · intro h
      apply List.ext_getElem hab
      intro j h1 h2
      have := h j (by omega) h1
      unfold rd at this
      simpa [List.getD_eq_getElem?_getD, h1, h2] using this
    · rintro rfl; intro j _ _; rfl
  · rw [if_neg (by omega), decide_eq_false (fun h => hab (by rw [h]))]

theorem idx_cases {α : Type} (p : α → Bool) : ∀ (l : List α) (i : Int), (idxFrom p l i = -1 ∧ ∀ x ∈ l, p x = false) ∨ ∃ j : Nat, ∃ h : j < l.length, idxFrom p l i = i + j ∧ p l[j] = true
  | [], i => .inl ⟨rfl, by simp⟩
  | x :: xs, i => by
    simp only [idxFrom]
    by_cases c : p x = true
    · rw [if_pos c]
      exact .inr ⟨0, by simp, by simp, by simpa using c⟩
    · rw [if_neg c]
      rcases idx_cases p xs (i + 1) with ⟨h1, h2⟩ | ⟨j, h1, h2, h3⟩
      · exact .inl ⟨h1, by intro y hy; rcases List.mem_cons.1 hy with rfl | hy; simpa using c; exact h2 y hy⟩
      · exact .inr ⟨j + 1, by simp; omega, by rw [h2]; omega, by simpa using h3⟩
def rbTo : Nat → List Int
  | 0 => []
  | s + 1 => rbTo s ++ [(s : Int) + 1]
theorem rbTo_len : ∀ s, (rbTo s).length = s
  | 0 => rfl
  | s + 1 => by simp [rbTo, rbTo_len s]
theorem right_loop (N : Nat) (hN : N ≤ 100) (d : Nat) : ∀ (k s : Nat), s + d = N → d < k → impl_rightBlock.l0 k (rbTo s) (N : Int) (s : Int) = some (rbTo N) := by
  induction d with
  | zero =>
    intro k s h hk
    obtain ⟨k, rfl⟩ : ∃ m, k = m + 1 := ⟨k - 1, by omega⟩
    simp only [impl_rightBlock.l0]
    rw [if_neg (by omega), show s = N by omega]
  | succ d ih =>
    intro k s h hk
    obtain ⟨k, rfl⟩ : ∃ m, k = m + 1 := ⟨k - 1, by omega⟩
    simp only [impl_rightBlock.l0]
    rw [if_pos (by omega), if_pos (by rw [rbTo_len]; omega), sw (by omega) (by omega)]
    exact ih k (s + 1) (by omega) (by omega)
end Go.Proofs.Ythfegojffgblmaa.Pure
