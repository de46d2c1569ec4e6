/- Small laws for the books: lists, the first place of a fault, the right block's list. No conditions. -/
import Derived.Test.YthfegojffgblmaaEFaultFind
namespace Go.Proofs.Ythfegojffgblmaa.Pure
open Go.RowKit Go.Proofs.Ythfegojffgblmaa.X Go.Proofs.YthfegojffgblmaaW.PrintWords Go.Proofs.YthfegojffgblmaaW.PrintLast
set_option linter.unusedVariables false
set_option linter.unusedSimpArgs false

theorem sw {x : Int} (h1 : -1000000000000 ≤ x) (h2 : x ≤ 1000000000000) : wrap64 x = x := by unfold wrap64; omega

theorem rd_ext' {a b : List Int} (hab : a.length = b.length) (h : ∀ j : Nat, j < a.length → rd a j = rd b j) : a = b := by
  apply List.ext_getElem hab
  intro j h1 h2
  have := h j h1
  unfold rd at this
  simpa [List.getD_eq_getElem?_getD, h1, h2] using this
theorem rd_at (l : List Int) (i : Nat) (h : i < l.length) : rd l i = l[i] := by
  unfold rd
  simp [List.getD_eq_getElem?_getD, h]
theorem idx_cases {α : Type} (p : α → Bool) : ∀ (l : List α) (i : Int), (idxFrom p l i = -1 ∧ ∀ x ∈ l, p x = false) ∨ ∃ j : Nat, ∃ h : j < l.length, idxFrom p l i = i + j ∧ p l[j] = true
  | [], i => .inl ⟨rfl, by simp⟩
  | x :: xs, i => by
    simp only [idxFrom]
    by_cases c : p x = true
    · rw [if_pos c]
      exact .inr ⟨0, by simp, by simp, by simpa using c⟩
    · rw [if_neg c]
      rcases idx_cases p xs (i + 1) with ⟨h1, h2⟩ | ⟨j, h1, h2, h3⟩
      · exact .inl ⟨h1, by intro y hy; rcases List.mem_cons.1 hy with rfl | hy; simpa using c; exact h2 y hy⟩
      · exact .inr ⟨j + 1, by simp; omega, by rw [h2]; omega, by simpa using h3⟩
def rbTo : Nat → List Int
  | 0 => []
  | s + 1 => rbTo s ++ [(s : Int) + 1]
theorem rbTo_len : ∀ s, (rbTo s).length = s
  | 0 => rfl
  | s + 1 => by simp [rbTo, rbTo_len s]
end Go.Proofs.Ythfegojffgblmaa.Pure
