/- Wrong books and gathered books: the reference's answers are the program's, for all arguments. No conditions but the list's length. -/
import Derived.Test.YthfegojffgblmaaPureLines
namespace Go.Proofs.Ythfegojffgblmaa.Pure
open Go.RowKit Go.Proofs.Ythfegojffgblmaa.X Go.Proofs.YthfegojffgblmaaW.PrintWords Go.Proofs.YthfegojffgblmaaW.PrintLast
set_option linter.unusedVariables false
set_option linter.unusedSimpArgs false

/-- The code of a line with faults: both give the same; 0 where the faults are a line's. -/
theorem code_both (n m : Int) (l : List S54) (k : Nat) (hk : 1000 ≤ k) (hl : l.length ≤ 2000000) : ∃ cd : Int, spec_l14Code.f k n m l = some cd ∧ impl_checkFaults.f n m l = some cd ∧ (cd = 0 → impl_AreFaults.f n m l = some true) := by
  have hare := areFaults_eq n m l k hk hl
  obtain ⟨A, hA⟩ : ∃ A, impl_AreFaults.f n m l = some A := ⟨_, rfl⟩
  rw [hA] at hare
  obtain ⟨L, hL⟩ : ∃ L, L = ((decide (1 ≤ n) && decide (n ≤ 12)) && (decide (0 ≤ m) && decide (m ≤ 40))) := ⟨_, rfl⟩
  have hline : impl_isLine.f n m = some L := by rw [isLine_is, hL]
  have hsline : spec_l14Line.f n m = some L := by
    unfold spec_l14Line.f
    rw [inS, inS, hL]
    simp only [Option.bind_some]
    cases (decide (1 ≤ n) && decide (n ≤ 12)) <;> simp
  refine ⟨if L = true then (if A = true then 0 else 1) else 2, ?_, ?_, ?_⟩
  · unfold spec_l14Code.f
    rw [hsline, Option.bind_some, hare]
    cases L <;> cases A <;> simp
  · unfold impl_checkFaults.f
    rw [hline, Option.bind_some, hA]
    cases L <;> cases A <;> simp
  · intro h
    rw [hA]
    cases A with
    | true => rfl
    | false => cases L <;> simp at h
theorem wrong_both (n m : Int) (l : List S54) (k : Nat) (hk : 2000 ≤ k) (hl : l.length ≤ 2000000) : ∃ r : List Int × Int, spec_WrongBooks.f k n m l = some r ∧ impl_WrongBooks.f k n m l = some r ∧ r.1.length ≤ 40 := by
  obtain ⟨cd, h1, h2, h3⟩ := code_both n m l k (by omega) hl
  by_cases c : cd = 0
  · rw [c] at h1 h2
    obtain ⟨v1, v2, v3, v4, v5⟩ := valid_of (h3 c)
    obtain ⟨N, hN⟩ : ∃ N : Nat, N = n.toNat := ⟨_, rfl⟩
    have hn : n = (N : Int) := by omega
    obtain ⟨M, hM⟩ : ∃ M : Nat, M = m.toNat := ⟨_, rfl⟩
    have hm : m = (M : Int) := by omega
    subst hn
    subst hm
    have hga : impl_gather.f (N : Int) (M : Int) l = some (booksTo l N M) := by
      unfold impl_gather.f
      rw [if_pos (by omega), Int.toNat_natCast, Int.toNat_natCast]
    have hwl := wrongTo_len l N M
    refine ⟨(wrongTo l N M, 0), ?_, ?_, by show (wrongTo l N M).length ≤ 40; omega⟩
    · unfold spec_WrongBooks.f
      rw [h1, Option.bind_some, if_pos rfl, block_f N (by omega) 0 [] (by simp) (fun i j _ hj => absurd hj (by simp)) k (by omega), Option.bind_some, right_blockTo N (by omega)]
      exact swrong_loop N M (by omega) (by omega) l v3 v4 M 0 k (by omega) (by omega)
    · unfold impl_WrongBooks.f
      rw [h2, Option.bind_some, if_pos rfl, hga, Option.bind_some, booksTo_len]
      exact iwrong_loop N M (by omega) (by omega) l M 0 k (by omega) (by omega)
  · refine ⟨([], cd), ?_, ?_, by simp⟩
    · unfold spec_WrongBooks.f
      rw [h1, Option.bind_some, if_neg c]
    · unfold impl_WrongBooks.f
      rw [h2, Option.bind_some, if_neg c]
end Go.Proofs.Ythfegojffgblmaa.Pure
