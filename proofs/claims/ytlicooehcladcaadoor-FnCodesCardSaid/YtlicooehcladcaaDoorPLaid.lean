/- What a row's listed variables give the walks: the table of the powers of ten; the library's two errors. -/
import Derived.Test.YtlicooehcladcaaDoorEFmt
import Derived.Test.YtlicooehcladcaaDoorRows
import Derived.Lib.LaidTab
import Derived.LaidLaws
import Derived.LaidHandle
import Derived.MakeChecks
import Derived.Stop.LaidErr
namespace Go.Proofs.YtlicooehcladcaaDoor.X
open Go.RowKit
theorem gPow : Tryd.prog.globalNamed "internal/strconv.uint64pow10" = some 2 := by kernel_rfl
theorem gPowType : (Tryd.prog.globals[2]?).map (·.type) = some 103 := by kernel_rfl
theorem cellsU64 : Tryd.prog.cellsOf 72 = 1 := by kernel_rfl
theorem cellsPow : Tryd.prog.cellsOf 103 = 20 := by kernel_rfl
theorem powData {H : Type} : (Rows.laid_internal_strconv_uint64pow10 : DataW H) = Lib.tabData .u64 Lib.pow10Tab := rfl
/-- The three tables, as the rows list them. -/
theorem laidT_of {x y : String × DataW Unit} {r : List (String × DataW Unit)} {W : World} (h : laidMet Tryd.prog (x :: y :: ("internal/strconv.uint64pow10", Rows.laid_internal_strconv_uint64pow10) :: r) W) : LaidT W := by
  have h2 := h.tail.tail
  rw [powData] at h2
  exact Lib.tabIs_of_head gPow gPowType Tryd.underlying103 Tryd.underlying72 cellsU64 cellsPow h2
end Go.Proofs.YtlicooehcladcaaDoor.X
