import Derived.Test.YtlicooehcladcaaDoorX3
import Derived.Test.YtlicooehcladcaaDoorPureRead
namespace Go.Proofs.YtlicooehcladcaaDoor.Pure
open Go.RowKit Go.Proofs.YtlicooehcladcaaDoor.X Go.Proofs.YtlicooehcladcaaDoorW.PrintWords Go.Proofs.YtlicooehcladcaaDoorW.PrintLast
theorem FnExactReadCode : laws_FnExactReadCode.Pure := fun s _ => ⟨20, by
  unfold laws_FnExactReadCode.f
  by_cases h : (s.size : Int) > 1048576
  · rw [if_pos h]
  · rw [if_neg h, read_spec 0, read_impl s (by omega)]
    simp only [Option.bind_some, if_true]
    rw [if_neg (by simp)]⟩
end Go.Proofs.YtlicooehcladcaaDoor.Pure
