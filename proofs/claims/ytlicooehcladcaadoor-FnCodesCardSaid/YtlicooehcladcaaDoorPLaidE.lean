/- The library's two errors, as the rows list them. -/
import Derived.Test.YtlicooehcladcaaDoorEParse
import Derived.Test.YtlicooehcladcaaDoorPLaid
namespace Go.Proofs.YtlicooehcladcaaDoor.X
open Go.RowKit
theorem gSyn : Tryd.prog.globalNamed "strconv.ErrSyntax" = some 0 := by kernel_rfl
theorem gRan : Tryd.prog.globalNamed "strconv.ErrRange" = some 1 := by kernel_rfl
theorem gSynType : (Tryd.prog.globals[0]?).map (·.type) = some 41 := by kernel_rfl
theorem gRanType : (Tryd.prog.globals[1]?).map (·.type) = some 41 := by kernel_rfl
theorem starE : "*" ++ "errors.errorString" = "*errors.errorString" := by decide
theorem rowE (u : TypeId) (h : Tryd.prog.typeName? 3 u = some "*errors.errorString") : u = 98 :=
  typeName_ptr_named (nm := "errors.errorString") (by rw [starE]; kernel_rfl) (by kernel_rfl) (by decide) u (by rw [starE]; exact h)
theorem cellsE : Tryd.prog.cellsOf 100 = 1 := by kernel_rfl
theorem cellsS : Tryd.prog.cellsOf 9 = 1 := by kernel_rfl
theorem laidE_of {x y z : String × DataW Unit} {r : List (String × DataW Unit)} {W : World} (h : laidMet Tryd.prog (x :: y :: z :: ("strconv.ErrRange", Rows.laid_strconv_ErrRange) :: ("strconv.ErrSyntax", Rows.laid_strconv_ErrSyntax) :: r) W) : LaidE W := by
  have h3 := h.tail.tail.tail
  obtain ⟨a1, s1, hv1, _, _, _⟩ := laid_sentinel h3 gRan gRanType Tryd.underlying41 rowE Tryd.underlying98 Tryd.underlying100 rfl rfl Tryd.underlying9 cellsE cellsS
  obtain ⟨a2, s2, hv2, _, _, _⟩ := laid_sentinel h3.tail gSyn gSynType Tryd.underlying41 rowE Tryd.underlying98 Tryd.underlying100 rfl rfl Tryd.underlying9 cellsE cellsS
  exact ⟨⟨_, _, hv2⟩, _, _, hv1⟩
end Go.Proofs.YtlicooehcladcaaDoor.X
