/- FnExactBestValue: for all arguments the answer is true: the program's BestValue answers as the reference's. No conditions. -/
import Derived.Test.YtkakdklakoplhaaX4
import Derived.Test.YtkakdklakoplhaaPureKindCopy
namespace Go.Proofs.Ytkakdklakoplhaa.Pure
open Go.RowKit Go.Proofs.Ytkakdklakoplhaa.X Go.Proofs.YtkakdklakoplhaaW.PrintWords Go.Proofs.YtkakdklakoplhaaW.PrintLast
set_option linter.unusedVariables false
set_option linter.unusedSimpArgs false

theorem FnExactBestValue : ∀ (a0 a1 : Int) (l2 : List S37), l2.length ≤ 9223372036854775807 → ∃ k, laws_FnExactBestValue.f k a0 a1 l2 = some true := by
  intro a0 a1 l2 hmax
  obtain ⟨K, hK⟩ : ∃ K, K = 3000000 := ⟨_, rfl⟩
  refine ⟨K + 1, ?_⟩
  unfold laws_FnExactBestValue.f laws_szKindS.f
  have hw : wrap64 (1048576 - (l2.length : Int)) = 1048576 - (l2.length : Int) := by unfold wrap64; omega
  rw [hw]
  by_cases hl : 1048576 - (l2.length : Int) < 0
  · rw [if_pos hl, Option.bind_some, if_pos (by omega)]
  rw [if_neg hl, Option.bind_some, if_neg hl]
  clear hw
  obtain ⟨l, hlm⟩ : ∃ l, l = l2.map kconv := ⟨_, rfl⟩
  have hll : l.length = l2.length := by rw [hlm]; simp
  have hcp : ∀ k, l2.length < k → laws_toKindS.f k l2 = some l := fun k hk => by rw [hlm]; exact kcopy_ok l2 (by omega) k hk
  obtain ⟨r, hs, hi⟩ := value_both a0 a1 l (by omega) (K + 1) (by omega)
  rw [hcp (K + 1) (by omega), Option.bind_some, hs, Option.bind_some, Option.bind_some, hi, Option.bind_some, if_pos rfl]
  simp only [laws_FnExactBestValue.j0]
  rw [if_neg (by simp), hcp K (by omega), Option.bind_some, keqs_self l (by omega) K (by omega), Option.bind_some, if_pos rfl]
end Go.Proofs.Ytkakdklakoplhaa.Pure
