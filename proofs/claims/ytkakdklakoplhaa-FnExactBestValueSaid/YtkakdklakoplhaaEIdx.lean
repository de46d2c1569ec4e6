/- The first element of which something holds. No program in sight. -/
import Derived.Test.YtkakdklakoplhaaX0
import Derived.Shelf.Abstract
namespace Go.Proofs.Ytkakdklakoplhaa.X
/-- Where the first element lies of which p holds, or -1, from place i on. -/
def idxFrom {α : Type} (p : α → Bool) : List α → Int → Int
  | [], _ => -1
  | x :: xs, i => if p x then i else idxFrom p xs (i + 1)
theorem idxFrom_ge {α : Type} (p : α → Bool) : ∀ (l : List α) (i : Int), 0 ≤ i → (0 ≤ idxFrom p l i ↔ l.any p = true)
  | [], i, _ => by simp [idxFrom]
  | x :: xs, i, hi => by
    simp only [idxFrom, List.any_cons]
    by_cases h : p x = true
    · simp [h, hi]
    · have h' : p x = false := by simpa using h
      rw [if_neg h, idxFrom_ge p xs (i + 1) (by omega), h']
      simp
theorem idxFrom_step {α : Type} (p : α → Bool) (l : List α) (k : Nat) (h : k < l.length) (i : Int) (hp : p l[k] = false) : idxFrom p (l.drop k) i = idxFrom p (l.drop (k + 1)) (i + 1) := by
  rw [List.drop_eq_getElem_cons h, idxFrom, if_neg (by simp [hp])]
theorem idxFrom_hit {α : Type} (p : α → Bool) (l : List α) (k : Nat) (h : k < l.length) (i : Int) (hp : p l[k] = true) : idxFrom p (l.drop k) i = i := by
  rw [List.drop_eq_getElem_cons h, idxFrom, if_pos hp]

end Go.Proofs.Ytkakdklakoplhaa.X
