/- The code of a line with faults: the reference's is the program's. No conditions but the list's length. -/
import Derived.Test.YthfegojffgblmaaX5
import Derived.Test.YthfegojffgblmaaPureLinesA
namespace Go.Proofs.Ythfegojffgblmaa.Pure
open Go.RowKit Go.Proofs.Ythfegojffgblmaa.X Go.Proofs.YthfegojffgblmaaW.PrintWords Go.Proofs.YthfegojffgblmaaW.PrintLast
set_option linter.unusedVariables false
set_option linter.unusedSimpArgs false

/-- The code of a line with faults: both give the same; 0 where the faults are a line's. -/
theorem code_both (n m : Int) (l : List S54) (k : Nat) (hk : 1000 ≤ k) (hl : l.length ≤ 2000000) : ∃ cd : Int, spec_l14Code.f k n m l = some cd ∧ impl_checkFaults.f n m l = some cd ∧ (cd = 0 → impl_AreFaults.f n m l = some true) := by
  have hare := areFaults_eq n m l k hk hl
  obtain ⟨A, hA⟩ : ∃ A, impl_AreFaults.f n m l = some A := ⟨_, rfl⟩
  rw [hA] at hare
  obtain ⟨L, hL⟩ : ∃ L, L = ((decide (1 ≤ n) && decide (n ≤ 12)) && (decide (0 ≤ m) && decide (m ≤ 40))) := ⟨_, rfl⟩
  have hline : impl_isLine.f n m = some L := by rw [isLine_is, hL]
  have hsline : spec_l14Line.f n m = some L := by
    unfold spec_l14Line.f
    rw [inS, inS, hL]
    simp only [Option.bind_some]
    cases (decide (1 ≤ n) && decide (n ≤ 12)) <;> simp
  refine ⟨if L = true then (if A = true then 0 else 1) else 2, ?_, ?_, ?_⟩
  · unfold spec_l14Code.f
    rw [hsline, Option.bind_some, hare]
    cases L <;> cases A <;> simp
  · unfold impl_checkFaults.f
    rw [hline, Option.bind_some, hA]
    cases L <;> cases A <;> simp
  · intro h
    rw [hA]
    cases A with
    | true => rfl
    | false => cases L <;> simp at h
end Go.Proofs.Ythfegojffgblmaa.Pure
