/-
  No cell of these rows narrows 'for every input' (looked for: loops, veiled, ifaces, maps, wideKeys, modest, calm, conditions, laid).
  DERIVED. THE GIVEN ROWS OF THIS SEAT. 6 by the template 'for every input the law returns true; each argument reads behind the call as it read before'; 0 by the template 'total and deterministic' (their statements: YthfegojffgblmaaTotals.lean).
  GIVEN WITH THE SEED: the statements are not yours to turn. If you find one false, say at which input.
  Laid BY PROGRAM, IN A SANDBOX (cutbox-rows.mjs): the forced cells as the released guide's own fill.sh prints them over the translation 385de5f9e8349798… (all of the seat's roots in one cut). By AI agents, Wed Nov 11 2026. No macro, syntax, notation, axiom, sorry.
-/
import Derived.Test.YthfegojffgblmaaChecked
import GoSem.Claim
import GoSem.ClaimJoined
import GoSem.ClaimMapViews
import Derived.JoinedTies
import Derived.KernelRfl
namespace Go.Proofs.Ythfegojffgblmaa
/- THE CELL 'sum', in the pinned program and in every row, IS THE sha256 OF THE DUMP (.gsa) THAT YthfegojffgblmaaProg.lean LOADS. Nothing in Lean hashes anything: it is a label: what it is worth is what the hold of that sum in a sandbox is worth. -/
noncomputable def Try.pinned : Pinned := { name := "ythfegojffgblmaa", sum := "385de5f9e8349798b67859ac25e0740b971e0cf7de1786104079f8d084488764", checked := Try.checked }
namespace Rows
def none {H : Type} : Left H := { results := [], args := [] }

/-- 'laws.FnExactCountFaults': WHATEVER THE INPUT: true; the input reads as it did. -/
def fnExactCountFaultsSpec : ChangeSpec := { name := "fnExactCountFaults", fn := fun _ => fun
  | [d1, d2] => { results := [.lit (.bool true)], args := [d1, d2] }
  | _ => none }
def fnExactCountFaultsRow : OpenClaim := { program := "ythfegojffgblmaa", sum := "385de5f9e8349798b67859ac25e0740b971e0cf7de1786104079f8d084488764", func := "loop.example/g00944/laws.FnExactCountFaults", spec := "fnExactCountFaults", unfollowed := true, recurses := true, plainKeys := false, apart := false }
def FnExactCountFaultsSaid : Prop := fnExactCountFaultsRow.holds Try.pinned (OpenSpec.ofChange fnExactCountFaultsSpec)

/-- ITS FALSE NEIGHBOUR: 'it returns false'. Refute it at one input. -/
def fnExactCountFaultsWrong : ChangeSpec := { name := "fnExactCountFaults", fn := fun _ => fun
  | [d1, d2] => { results := [.lit (.bool false)], args := [d1, d2] }
  | _ => none }
def FnExactCountFaultsWrongFalsely : Prop := fnExactCountFaultsRow.holds Try.pinned (OpenSpec.ofChange fnExactCountFaultsWrong)

/-- 'laws.FnExactExplainBlock': WHATEVER THE INPUT: true; the input reads as it did. -/
def fnExactExplainBlockSpec : ChangeSpec := { name := "fnExactExplainBlock", fn := fun _ => fun
  | [d1, d2] => { results := [.lit (.bool true)], args := [d1, d2] }
  | _ => none }
def fnExactExplainBlockRow : OpenClaim := { program := "ythfegojffgblmaa", sum := "385de5f9e8349798b67859ac25e0740b971e0cf7de1786104079f8d084488764", func := "loop.example/g00944/laws.FnExactExplainBlock", spec := "fnExactExplainBlock", unfollowed := true, recurses := true, plainKeys := false, apart := false }
def FnExactExplainBlockSaid : Prop := fnExactExplainBlockRow.holds Try.pinned (OpenSpec.ofChange fnExactExplainBlockSpec)

/-- ITS FALSE NEIGHBOUR: 'it returns false'. Refute it at one input. -/
def fnExactExplainBlockWrong : ChangeSpec := { name := "fnExactExplainBlock", fn := fun _ => fun
  | [d1, d2] => { results := [.lit (.bool false)], args := [d1, d2] }
  | _ => none }
def FnExactExplainBlockWrongFalsely : Prop := fnExactExplainBlockRow.holds Try.pinned (OpenSpec.ofChange fnExactExplainBlockWrong)

/-- 'laws.FnExactGatherBooks': WHATEVER THE INPUT: true; the input reads as it did. -/
def fnExactGatherBooksSpec : ChangeSpec := { name := "fnExactGatherBooks", fn := fun _ => fun
  | [d1, d2, d3] => { results := [.lit (.bool true)], args := [d1, d2, d3] }
  | _ => none }
def fnExactGatherBooksRow : OpenClaim := { program := "ythfegojffgblmaa", sum := "385de5f9e8349798b67859ac25e0740b971e0cf7de1786104079f8d084488764", func := "loop.example/g00944/laws.FnExactGatherBooks", spec := "fnExactGatherBooks", unfollowed := true, recurses := true, plainKeys := false, apart := false }
def FnExactGatherBooksSaid : Prop := fnExactGatherBooksRow.holds Try.pinned (OpenSpec.ofChange fnExactGatherBooksSpec)

/-- ITS FALSE NEIGHBOUR: 'it returns false'. Refute it at one input. -/
def fnExactGatherBooksWrong : ChangeSpec := { name := "fnExactGatherBooks", fn := fun _ => fun
  | [d1, d2, d3] => { results := [.lit (.bool false)], args := [d1, d2, d3] }
  | _ => none }
def FnExactGatherBooksWrongFalsely : Prop := fnExactGatherBooksRow.holds Try.pinned (OpenSpec.ofChange fnExactGatherBooksWrong)

/-- 'laws.FnExactWrongBooks': WHATEVER THE INPUT: true; the input reads as it did. -/
def fnExactWrongBooksSpec : ChangeSpec := { name := "fnExactWrongBooks", fn := fun _ => fun
  | [d1, d2, d3] => { results := [.lit (.bool true)], args := [d1, d2, d3] }
  | _ => none }
def fnExactWrongBooksRow : OpenClaim := { program := "ythfegojffgblmaa", sum := "385de5f9e8349798b67859ac25e0740b971e0cf7de1786104079f8d084488764", func := "loop.example/g00944/laws.FnExactWrongBooks", spec := "fnExactWrongBooks", unfollowed := true, recurses := true, plainKeys := false, apart := false }
def FnExactWrongBooksSaid : Prop := fnExactWrongBooksRow.holds Try.pinned (OpenSpec.ofChange fnExactWrongBooksSpec)

/-- ITS FALSE NEIGHBOUR: 'it returns false'. Refute it at one input. -/
def fnExactWrongBooksWrong : ChangeSpec := { name := "fnExactWrongBooks", fn := fun _ => fun
  | [d1, d2, d3] => { results := [.lit (.bool false)], args := [d1, d2, d3] }
  | _ => none }
def FnExactWrongBooksWrongFalsely : Prop := fnExactWrongBooksRow.holds Try.pinned (OpenSpec.ofChange fnExactWrongBooksWrong)

/-- 'laws.FnLinesOfBooks': WHATEVER THE INPUT: true; the input reads as it did. -/
def fnLinesOfBooksSpec : ChangeSpec := { name := "fnLinesOfBooks", fn := fun _ => fun
  | [d] => { results := [.lit (.bool true)], args := [d] }
  | _ => none }
def fnLinesOfBooksRow : OpenClaim := { program := "ythfegojffgblmaa", sum := "385de5f9e8349798b67859ac25e0740b971e0cf7de1786104079f8d084488764", func := "loop.example/g00944/laws.FnLinesOfBooks", spec := "fnLinesOfBooks", unfollowed := true, recurses := true, plainKeys := false, apart := false }
def FnLinesOfBooksSaid : Prop := fnLinesOfBooksRow.holds Try.pinned (OpenSpec.ofChange fnLinesOfBooksSpec)

/-- ITS FALSE NEIGHBOUR: 'it returns false'. Refute it at one input. -/
def fnLinesOfBooksWrong : ChangeSpec := { name := "fnLinesOfBooks", fn := fun _ => fun
  | [d] => { results := [.lit (.bool false)], args := [d] }
  | _ => none }
def FnLinesOfBooksWrongFalsely : Prop := fnLinesOfBooksRow.holds Try.pinned (OpenSpec.ofChange fnLinesOfBooksWrong)

/-- 'laws.FnExplained': WHATEVER THE INPUT: true; the input reads as it did. -/
def fnExplainedSpec : ChangeSpec := { name := "fnExplained", fn := fun _ => fun
  | [d] => { results := [.lit (.bool true)], args := [d] }
  | _ => none }
def fnExplainedRow : OpenClaim := { program := "ythfegojffgblmaa", sum := "385de5f9e8349798b67859ac25e0740b971e0cf7de1786104079f8d084488764", func := "loop.example/g00944/laws.FnExplained", spec := "fnExplained", unfollowed := true, recurses := true, plainKeys := false, apart := false }
def FnExplainedSaid : Prop := fnExplainedRow.holds Try.pinned (OpenSpec.ofChange fnExplainedSpec)

/-- ITS FALSE NEIGHBOUR: 'it returns false'. Refute it at one input. -/
def fnExplainedWrong : ChangeSpec := { name := "fnExplained", fn := fun _ => fun
  | [d] => { results := [.lit (.bool false)], args := [d] }
  | _ => none }
def FnExplainedWrongFalsely : Prop := fnExplainedRow.holds Try.pinned (OpenSpec.ofChange fnExplainedWrong)

/- THE SECOND FORM. 'bulk': how many values and letters a reading holds, each counted each time it is reached (what is shared counts as often as it is met; a slice's spare places count too). A statement '..UptoSaid' is the law's where the arguments, and the package variables that the reading takes, are together of bulk at most 1048576: NARROWER than '..Said'. Prove '..Said' where nothing that the law and all that it calls make is longer than what came in: it says more and counts as full. Else prove '..UptoSaid'. A law counts once. -/
mutual
def uptoBulk {H : Type} : DataW H → Nat
  | .lit (.string bytes) => bytes.length + 1
  | .lit _ => 1
  | .nil => 1
  | .ptr d => uptoBulk d + 1
  | .slice elems spare => uptoBulkAll elems + uptoBulkAll spare + 1
  | .agg parts => uptoBulkAll parts + 1
  | .iface _ d => uptoBulk d + 1
  | .map entries => uptoBulkEntries entries + 1
  | .held _ => 1
def uptoBulkAll {H : Type} : List (DataW H) → Nat
  | [] => 0
  | d :: r => uptoBulk d + uptoBulkAll r
def uptoBulkEntries {H : Type} : List (Lit × DataW H) → Nat
  | [] => 0
  | x :: r => uptoBulkEntry x + uptoBulkEntries r
def uptoBulkEntry {H : Type} : Lit × DataW H → Nat
  | (.string bytes, d) => bytes.length + uptoBulk d + 1
  | (_, d) => uptoBulk d + 1
 end
def uptoSmall : (H : Type) → List (DataW H) → Bool := fun _ ds => decide (uptoBulkAll ds ≤ 1048576)
def OpenSpec.upto (s : _root_.Go.ChangeSpec) : _root_.Go.OpenSpec := { _root_.Go.OpenSpec.ofChange s with cond := some uptoSmall }

/-- 'laws.FnExactCountFaults', WHERE WHAT IT READS IS OF BULK AT MOST 1048576: true; the input reads as it did. -/
def fnExactCountFaultsUptoRow : OpenClaim := { program := "ythfegojffgblmaa", sum := "385de5f9e8349798b67859ac25e0740b971e0cf7de1786104079f8d084488764", func := "loop.example/g00944/laws.FnExactCountFaults", spec := "fnExactCountFaults", unfollowed := true, recurses := true, plainKeys := false, apart := false, narrowed := true }
def FnExactCountFaultsUptoSaid : Prop := fnExactCountFaultsUptoRow.holds Try.pinned (OpenSpec.upto fnExactCountFaultsSpec)

/-- 'laws.FnExactExplainBlock', WHERE WHAT IT READS IS OF BULK AT MOST 1048576: true; the input reads as it did. -/
def fnExactExplainBlockUptoRow : OpenClaim := { program := "ythfegojffgblmaa", sum := "385de5f9e8349798b67859ac25e0740b971e0cf7de1786104079f8d084488764", func := "loop.example/g00944/laws.FnExactExplainBlock", spec := "fnExactExplainBlock", unfollowed := true, recurses := true, plainKeys := false, apart := false, narrowed := true }
def FnExactExplainBlockUptoSaid : Prop := fnExactExplainBlockUptoRow.holds Try.pinned (OpenSpec.upto fnExactExplainBlockSpec)

/-- 'laws.FnExactGatherBooks', WHERE WHAT IT READS IS OF BULK AT MOST 1048576: true; the input reads as it did. -/
def fnExactGatherBooksUptoRow : OpenClaim := { program := "ythfegojffgblmaa", sum := "385de5f9e8349798b67859ac25e0740b971e0cf7de1786104079f8d084488764", func := "loop.example/g00944/laws.FnExactGatherBooks", spec := "fnExactGatherBooks", unfollowed := true, recurses := true, plainKeys := false, apart := false, narrowed := true }
def FnExactGatherBooksUptoSaid : Prop := fnExactGatherBooksUptoRow.holds Try.pinned (OpenSpec.upto fnExactGatherBooksSpec)

/-- 'laws.FnExactWrongBooks', WHERE WHAT IT READS IS OF BULK AT MOST 1048576: true; the input reads as it did. -/
def fnExactWrongBooksUptoRow : OpenClaim := { program := "ythfegojffgblmaa", sum := "385de5f9e8349798b67859ac25e0740b971e0cf7de1786104079f8d084488764", func := "loop.example/g00944/laws.FnExactWrongBooks", spec := "fnExactWrongBooks", unfollowed := true, recurses := true, plainKeys := false, apart := false, narrowed := true }
def FnExactWrongBooksUptoSaid : Prop := fnExactWrongBooksUptoRow.holds Try.pinned (OpenSpec.upto fnExactWrongBooksSpec)

/-- 'laws.FnLinesOfBooks', WHERE WHAT IT READS IS OF BULK AT MOST 1048576: true; the input reads as it did. -/
def fnLinesOfBooksUptoRow : OpenClaim := { program := "ythfegojffgblmaa", sum := "385de5f9e8349798b67859ac25e0740b971e0cf7de1786104079f8d084488764", func := "loop.example/g00944/laws.FnLinesOfBooks", spec := "fnLinesOfBooks", unfollowed := true, recurses := true, plainKeys := false, apart := false, narrowed := true }
def FnLinesOfBooksUptoSaid : Prop := fnLinesOfBooksUptoRow.holds Try.pinned (OpenSpec.upto fnLinesOfBooksSpec)

/-- 'laws.FnExplained', WHERE WHAT IT READS IS OF BULK AT MOST 1048576: true; the input reads as it did. -/
def fnExplainedUptoRow : OpenClaim := { program := "ythfegojffgblmaa", sum := "385de5f9e8349798b67859ac25e0740b971e0cf7de1786104079f8d084488764", func := "loop.example/g00944/laws.FnExplained", spec := "fnExplained", unfollowed := true, recurses := true, plainKeys := false, apart := false, narrowed := true }
def FnExplainedUptoSaid : Prop := fnExplainedUptoRow.holds Try.pinned (OpenSpec.upto fnExplainedSpec)

end Rows
end Go.Proofs.Ythfegojffgblmaa
