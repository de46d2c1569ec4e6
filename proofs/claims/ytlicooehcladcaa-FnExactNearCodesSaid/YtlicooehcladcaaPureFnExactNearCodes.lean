/- FnExactNearCodes: for all arguments the answer is true: the program's NearCodes answers as the reference's, in memory of its own. No conditions. -/
import Derived.Test.YtlicooehcladcaaX11
import Derived.Test.YtlicooehcladcaaPureNear
import Derived.Test.YtlicooehcladcaaPureMarks
namespace Go.Proofs.Ytlicooehcladcaa.Pure
open Go.RowKit Go.Proofs.Ytlicooehcladcaa.X Go.Proofs.YtlicooehcladcaaW.PrintWords Go.Proofs.YtlicooehcladcaaW.PrintLast
set_option linter.unusedVariables false
set_option linter.unusedSimpArgs false

theorem FnExactNearCodes : laws_FnExactNearCodes.Pure := by
  intro a0 _
  obtain ⟨K, hK⟩ : ∃ K, K = 1000 := ⟨_, rfl⟩
  refine ⟨K + 2, ?_⟩
  unfold laws_FnExactNearCodes.f
  obtain ⟨r, hs, hi, hl, _⟩ := near_both a0
  rw [hs, Option.bind_some, hi, Option.bind_some, eqs_self r.1 (by omega) (K + 2) (by omega), Option.bind_some, if_pos rfl]
  simp only [laws_FnExactNearCodes.j0]
  obtain ⟨s2, e2, hs2, hm2⟩ := mark_ok r.1 1 (by omega) (by omega) (K + 1) (by omega)
  have hh := held_ok s2 1 (by omega) (by omega) (fun j hj => hm2 j (by omega)) (K + 1) (by omega)
  rw [if_neg (by simp), e2, Option.bind_some]
  simp only
  rw [hh, Option.bind_some, if_neg (by omega), if_pos (by omega), hi, Option.bind_some, eqs_self r.1 (by omega) (K + 1) (by omega), Option.bind_some, if_pos rfl]
  simp only [laws_FnExactNearCodes.j1]
  have hh0 := held_ok s2 1 (by omega) (by omega) (fun j hj => hm2 j (by omega)) K (by omega)
  rw [if_neg (by simp), hh0, Option.bind_some, if_neg (by omega), if_pos (by omega)]
end Go.Proofs.Ytlicooehcladcaa.Pure
