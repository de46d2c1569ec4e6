-- Written by this session's own program (wip/xprint.py) out of the translation; Lean checks it.
import Derived.Test.YtlicooehcladcaaDoorProg
import Derived.Below
import Derived.Deep.Draws
import Derived.Deep.AppendLies
import Derived.Maps.AppendAt
import Derived.OwnWalk
import Derived.Laws.BytesArg
import Derived.Laws.MakeOwn
import Derived.Laws.OwnMore
import Derived.Deep.OwnRows
import Derived.Tactics
import Derived.Lib.ConvBytes
import Derived.Laws.Slices
import Derived.WalkKit
import Derived.KernelRfl
import Derived.RowKit3
import Derived.Deep.LoopGhost
import Derived.Deep.QuietTactic
import Derived.BigQuiet
import Derived.WideLaws
import Derived.Deep.DeepCutAuto
import Derived.Deep.CutBlock
import Derived.Deep.RegionHeld3
import Derived.Laws.Rows
import Derived.Lib.AppendStr
import Derived.ArgAppend
import Derived.Laws.IdiomCopy
import Derived.OrdersHeld
import Derived.Laws.BitsLemmas
import Derived.RowKit
import Derived.Test.YtlicooehcladcaaDoorWWords
import Derived.Test.YtlicooehcladcaaDoorWLast
import Derived.Test.YtlicooehcladcaaDoorWTab
import Derived.Test.YtlicooehcladcaaDoorWFour
import Derived.Test.YtlicooehcladcaaDoorWQPut
import Derived.Test.YtlicooehcladcaaDoorWApart
import Derived.Test.YtlicooehcladcaaDoorWArr
import Derived.Test.YtlicooehcladcaaDoorWZeros
import Derived.Test.YtlicooehcladcaaDoorWFoot
import Derived.Test.YtlicooehcladcaaDoorWKept
import Derived.Test.YtlicooehcladcaaDoorWShare
import Derived.Test.YtlicooehcladcaaDoorWN
import Derived.Test.YtlicooehcladcaaDoorWFootNe
import Derived.Test.YtlicooehcladcaaDoorWAt
import Derived.Test.YtlicooehcladcaaDoorWEqStruct
import Derived.Test.YtlicooehcladcaaDoorWRepsOne
import Derived.Test.YtlicooehcladcaaDoorWInv
import Derived.Test.YtlicooehcladcaaDoorWInvWords
import Derived.Test.YtlicooehcladcaaDoorWGuard
import Derived.Test.YtlicooehcladcaaDoorWNEv
import Derived.Test.YtlicooehcladcaaDoorWMore
namespace Go.Proofs.YtlicooehcladcaaDoor.X
open Go.RowKit Go.Proofs.YtlicooehcladcaaDoorW.PrintWords Go.Proofs.YtlicooehcladcaaDoorW.PrintLast Go.Proofs.YtlicooehcladcaaDoorW.PrintMore
attribute [local go_sem] max2_int min2_int max_two min_two max_three min_three max_four min_four   -- for this text's walks alone
set_option linter.unusedVariables false
set_option linter.unusedSimpArgs false



def errW : Option Int → Value
  | none => .nilIface
  | some c => .iface 0 (.int .i64 c)
theorem errW_none : errW none = .nilIface := rfl
theorem errW_some (c : Int) : errW (some c) = .iface 0 (.int .i64 c) := rfl

theorem info2 : (Tryd.prog.info? 2).map (fun i => (i.zero, i.size, i.bytes)) = some (some (.int .i64 0), 1, 8) := by kernel_rfl
theorem info5 : (Tryd.prog.info? 5).map (fun i => (i.zero, i.size, i.bytes)) = some (some (.int .u8 0), 1, 1) := by kernel_rfl
theorem info9 : (Tryd.prog.info? 9).map (fun i => (i.zero, i.size, i.bytes)) = some (some (.string ⟨#[]⟩), 1, 16) := by kernel_rfl
-- the values' own types

end Go.Proofs.YtlicooehcladcaaDoor.X
