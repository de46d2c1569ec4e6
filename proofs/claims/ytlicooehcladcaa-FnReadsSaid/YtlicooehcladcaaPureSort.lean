/- Numbers put in one by one, each before the first that is not less: it is the sorted list. No conditions. -/
import Derived.RowKit
namespace Go.Proofs.Ytlicooehcladcaa.Pure
set_option linter.unusedVariables false

def ins (l : List Int) (m : Int) : List Int := l.takeWhile (fun x => decide (x < m)) ++ [m] ++ l.dropWhile (fun x => decide (x < m))
theorem ins_perm (l : List Int) (m : Int) : (ins l m).Perm (m :: l) := by
  unfold ins
  have h : l.takeWhile (fun x => decide (x < m)) ++ l.dropWhile (fun x => decide (x < m)) = l := List.takeWhile_append_dropWhile
  rw [List.append_assoc, List.singleton_append]
  refine List.perm_middle.trans ?_
  rw [h]
theorem mem_takeWhile_lt (l : List Int) (m : Int) : ∀ x ∈ l.takeWhile (fun x => decide (x < m)), x < m := by
  induction l with
  | nil => simp
  | cons a l ih =>
    intro x hx
    rw [List.takeWhile_cons] at hx
    by_cases c : a < m
    · simp only [c, decide_true, if_true, List.mem_cons] at hx
      rcases hx with rfl | hx
      · exact c
      · exact ih x hx
    · simp [c] at hx
theorem mem_dropWhile_ge (l : List Int) (m : Int) (hs : l.Pairwise (fun x y => x ≤ y)) : ∀ x ∈ l.dropWhile (fun x => decide (x < m)), m ≤ x := by
  induction l with
  | nil => simp
  | cons a l ih =>
    intro x hx
    rw [List.dropWhile_cons] at hx
    rw [List.pairwise_cons] at hs
    by_cases c : a < m
    · simp only [c, decide_true, if_true] at hx
      exact ih hs.2 x hx
    · simp only [c, decide_false] at hx
      rcases List.mem_cons.1 hx with rfl | hx
      · omega
      · have := hs.1 x hx; omega
theorem ins_sorted (l : List Int) (m : Int) (hs : l.Pairwise (fun x y => x ≤ y)) : (ins l m).Pairwise (fun x y => x ≤ y) := by
  have h : l.takeWhile (fun x => decide (x < m)) ++ l.dropWhile (fun x => decide (x < m)) = l := List.takeWhile_append_dropWhile
  have h1 := mem_takeWhile_lt l m
  have h2 := mem_dropWhile_ge l m hs
  unfold ins
  rw [← h] at hs
  rw [List.pairwise_append] at hs
  obtain ⟨ha, hb, hab⟩ := hs
  rw [List.append_assoc, List.singleton_append, List.pairwise_append, List.pairwise_cons]
  refine ⟨ha, ⟨h2, hb⟩, fun a hma b hmb => ?_⟩
  rcases List.mem_cons.1 hmb with rfl | hmb
  · have := h1 a hma; omega
  · exact hab a hma b hmb
theorem foldl_ins_perm : ∀ (xs l : List Int), (xs.foldl ins l).Perm (xs ++ l)
  | [], l => List.Perm.refl _
  | x :: xs, l => by
    rw [List.foldl_cons]
    refine (foldl_ins_perm xs (ins l x)).trans ?_
    refine ((ins_perm l x).append_left xs).trans ?_
    rw [List.cons_append]
    exact List.perm_middle
theorem foldl_ins_sorted : ∀ (xs l : List Int), l.Pairwise (fun x y => x ≤ y) → (xs.foldl ins l).Pairwise (fun x y => x ≤ y)
  | [], l, h => h
  | x :: xs, l, h => foldl_ins_sorted xs (ins l x) (ins_sorted l x h)
theorem sort_eq (xs ys : List Int) (h : xs.Perm ys) : xs.foldl ins [] = ys.mergeSort (fun x y => decide (x ≤ y)) := by
  refine List.Perm.eq_of_pairwise (le := fun x y => x ≤ y) (fun a b _ _ h1 h2 => by omega) (foldl_ins_sorted xs [] List.Pairwise.nil) ?_ ?_
  · have := List.pairwise_mergeSort (le := fun x y : Int => decide (x ≤ y)) (fun a b c h1 h2 => by simp only [decide_eq_true_eq] at *; omega) (fun a b => by simp only [Bool.or_eq_true, decide_eq_true_eq]; omega) ys
    exact this.imp (fun h => of_decide_eq_true h)
  · have h1 := foldl_ins_perm xs []
    rw [List.append_nil] at h1
    exact h1.trans (h.trans (List.mergeSort_perm ys _).symm)
end Go.Proofs.Ytlicooehcladcaa.Pure
