/- Gathered books: the reference's are the program's, for all arguments. No conditions but the list's length. -/
import Derived.Test.YthfegojffgblmaaX4
import Derived.Test.YthfegojffgblmaaX6
import Derived.Test.YthfegojffgblmaaPureCode
namespace Go.Proofs.Ythfegojffgblmaa.Pure
open Go.RowKit Go.Proofs.Ythfegojffgblmaa.X Go.Proofs.YthfegojffgblmaaW.PrintWords Go.Proofs.YthfegojffgblmaaW.PrintLast
set_option linter.unusedVariables false
set_option linter.unusedSimpArgs false

theorem sgather_loop (N M : Nat) (hN : N ≤ 12) (hM : M ≤ 40) (l : List S54) (hl : l.length ≤ 20) (hO : Once l) (d : Nat) : ∀ (b k : Nat), b + d = M → d + 1001 ≤ k → spec_GatherBooks.l0 k (N : Int) (M : Int) l (booksTo l N b) (b : Int) = some (booksTo l N M, 0) := by
  induction d with
  | zero =>
    intro b k hb hk
    obtain ⟨k, rfl⟩ : ∃ m, k = m + 1 := ⟨k - 1, by omega⟩
    simp only [spec_GatherBooks.l0]
    rw [if_neg (by omega), show b = M by omega]
  | succ d ih =>
    intro b k hb hk
    obtain ⟨k, rfl⟩ : ∃ m, k = m + 1 := ⟨k - 1, by omega⟩
    have hkl := booksTo_len l N b
    simp only [spec_GatherBooks.l0]
    rw [if_pos (by omega), block_f N hN b l hl hO k (by omega), Option.bind_some, if_pos (by omega), sw (by omega) (by omega)]
    exact ih (b + 1) k (by omega) (by omega)
theorem gather_both (n m : Int) (l : List S54) (k : Nat) (hk : 2000 ≤ k) (hl : l.length ≤ 2000000) : ∃ r : List (List Int) × Int, spec_GatherBooks.f k n m l = some r ∧ impl_GatherBooks.f n m l = some r ∧ r.1.length ≤ 40 ∧ ∀ x ∈ r.1, x.length ≤ 24 := by
  obtain ⟨cd, h1, h2, h3⟩ := code_both n m l k (by omega) hl
  by_cases c : cd = 0
  · rw [c] at h1 h2
    obtain ⟨v1, v2, v3, v4, v5⟩ := valid_of (h3 c)
    obtain ⟨N, hN⟩ : ∃ N : Nat, N = n.toNat := ⟨_, rfl⟩
    have hn : n = (N : Int) := by omega
    obtain ⟨M, hM⟩ : ∃ M : Nat, M = m.toNat := ⟨_, rfl⟩
    have hm : m = (M : Int) := by omega
    subst hn
    subst hm
    have hga : impl_gather.f (N : Int) (M : Int) l = some (booksTo l N M) := by
      unfold impl_gather.f
      rw [if_pos (by omega), Int.toNat_natCast, Int.toNat_natCast]
    have hmem : ∀ B, ∀ x ∈ booksTo l N B, x.length ≤ 24 := by
      intro B
      induction B with
      | zero => simp [booksTo]
      | succ B ih =>
        intro x hx
        simp only [booksTo, List.mem_append, List.mem_singleton] at hx
        rcases hx with hx | rfl
        · exact ih x hx
        · have := blockTo_len l B N; omega
    refine ⟨(booksTo l N M, 0), ?_, ?_, by show (booksTo l N M).length ≤ 40; rw [booksTo_len]; omega, hmem M⟩
    · unfold spec_GatherBooks.f
      rw [h1, Option.bind_some, if_pos rfl]
      exact sgather_loop N M (by omega) (by omega) l v3 v4 M 0 k (by omega) (by omega)
    · unfold impl_GatherBooks.f
      rw [h2, Option.bind_some, if_pos rfl, hga, Option.bind_some]
  · refine ⟨([], cd), ?_, ?_, by simp, by simp⟩
    · unfold spec_GatherBooks.f
      rw [h1, Option.bind_some, if_neg c]
    · unfold impl_GatherBooks.f
      rw [h2, Option.bind_some, if_neg c]
end Go.Proofs.Ythfegojffgblmaa.Pure
