/-
  DERIVED. GIVEN WITH THE SEED: THE CARDS: each row of YtlicooehcladcaaDoorRows.lean that lists a variable, with what it lists TIED to the program's text (the seventh form; the later family's looks); each row that meets fmt, with fmt's text TOLD by the authors' own Lean function (tested against real Go, not proved from fmt's source: count such statements apart). THE CARD IS WHAT COUNTS. Prove the row's statement (the work); the ties are given (YtlicooehcladcaaDoorTie.lean); close each card by the builder's one call (the guide's Derived/Test/ToyasCard.lean, 'card_holds'). Laid BY PROGRAM, IN A SANDBOX (cutbox-door.mjs). By AI agents, Wed Nov 11 2026. No macro, syntax, notation, axiom, sorry.
-/
import Derived.Test.YtlicooehcladcaaDoorRows
import GoSem.ClaimSeven
namespace Go.Proofs.YtlicooehcladcaaDoor
namespace Rows

/-- THE TIED CARD OF 'laws.FnExactCodeText'. -/
def fnExactCodeTextCard : Claim7 := { stood := { row := fnExactCodeTextRow, standIns := [], harness := (true, "2dfc06594deb77f51c36f1477875c00dc2634cacc8c9c20fb9efb6f96585a76c"), looks := true }, kinds := [], alts := [], laidByText := true, laidKinds := [.data, .data, .data], laidTests := true, laidLooks := .later }
def FnExactCodeTextCardSaid : Prop := Claim7.holds Tryd.pinned (.plain (OpenSpec.ofChange fnExactCodeTextSpec)) fnExactCodeTextCard

/-- THE TIED CARD OF 'laws.FnExactReadCode'. -/
def fnExactReadCodeCard : Claim7 := { stood := { row := fnExactReadCodeRow, standIns := [], harness := (true, "2dfc06594deb77f51c36f1477875c00dc2634cacc8c9c20fb9efb6f96585a76c"), looks := true }, kinds := [], alts := [], laidByText := true, laidKinds := [.data, .data, .data, .sentinel, .sentinel], laidTests := true, laidLooks := .later }
def FnExactReadCodeCardSaid : Prop := Claim7.holds Tryd.pinned (.plain (OpenSpec.ofChange fnExactReadCodeSpec)) fnExactReadCodeCard

/-- THE TIED CARD OF 'laws.FnCodes'. -/
def fnCodesCard : Claim7 := { stood := { row := fnCodesRow, standIns := [], harness := (true, "2dfc06594deb77f51c36f1477875c00dc2634cacc8c9c20fb9efb6f96585a76c"), looks := true }, kinds := [], alts := [], laidByText := true, laidKinds := [.data, .data, .data, .sentinel, .sentinel], laidTests := true, laidLooks := .later }
def FnCodesCardSaid : Prop := Claim7.holds Tryd.pinned (.plain (OpenSpec.ofChange fnCodesSpec)) fnCodesCard

/-- THE SECOND FORM's CARD OF 'laws.FnExactCodeText'. -/
def fnExactCodeTextUptoCard : Claim7 := { stood := { row := fnExactCodeTextUptoRow, standIns := [], harness := (true, "2dfc06594deb77f51c36f1477875c00dc2634cacc8c9c20fb9efb6f96585a76c"), looks := true }, kinds := [], alts := [], laidByText := true, laidKinds := [.data, .data, .data], laidTests := true, laidLooks := .later }
def FnExactCodeTextUptoCardSaid : Prop := Claim7.holds Tryd.pinned (.plain (OpenSpec.upto fnExactCodeTextSpec)) fnExactCodeTextUptoCard

/-- THE SECOND FORM's CARD OF 'laws.FnExactReadCode'. -/
def fnExactReadCodeUptoCard : Claim7 := { stood := { row := fnExactReadCodeUptoRow, standIns := [], harness := (true, "2dfc06594deb77f51c36f1477875c00dc2634cacc8c9c20fb9efb6f96585a76c"), looks := true }, kinds := [], alts := [], laidByText := true, laidKinds := [.data, .data, .data, .sentinel, .sentinel], laidTests := true, laidLooks := .later }
def FnExactReadCodeUptoCardSaid : Prop := Claim7.holds Tryd.pinned (.plain (OpenSpec.upto fnExactReadCodeSpec)) fnExactReadCodeUptoCard

/-- THE SECOND FORM's CARD OF 'laws.FnCodes'. -/
def fnCodesUptoCard : Claim7 := { stood := { row := fnCodesUptoRow, standIns := [], harness := (true, "2dfc06594deb77f51c36f1477875c00dc2634cacc8c9c20fb9efb6f96585a76c"), looks := true }, kinds := [], alts := [], laidByText := true, laidKinds := [.data, .data, .data, .sentinel, .sentinel], laidTests := true, laidLooks := .later }
def FnCodesUptoCardSaid : Prop := Claim7.holds Tryd.pinned (.plain (OpenSpec.upto fnCodesSpec)) fnCodesUptoCard
end Rows
end Go.Proofs.YtlicooehcladcaaDoor
