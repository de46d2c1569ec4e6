import Derived.Test.YtlicooehcladcaaDoorX3
import Derived.Test.YtlicooehcladcaaDoorPureSeven
namespace Go.Proofs.YtlicooehcladcaaDoor.Pure
open Go.RowKit Go.Proofs.YtlicooehcladcaaDoor.X Go.Proofs.YtlicooehcladcaaDoorW.PrintWords Go.Proofs.YtlicooehcladcaaDoorW.PrintLast
theorem FnExactCodeText : laws_FnExactCodeText.Pure := fun a0 _ => ⟨10, by
  obtain ⟨r, hs, hi⟩ := code_text 0 a0
  unfold laws_FnExactCodeText.f
  rw [hs, hi]
  simp only [Option.bind_some, if_true]⟩
end Go.Proofs.YtlicooehcladcaaDoor.Pure
