/-
  No cell of these rows narrows 'for every input' (looked for: loops, veiled, ifaces, maps, wideKeys, modest, calm, conditions, laid).
  DERIVED. THE GIVEN ROWS OF THIS SEAT. 5 by the template 'for every input the law returns true; each argument reads behind the call as it read before'; 0 by the template 'total and deterministic' (their statements: YtmkhmlgihkaphaaTotals.lean).
  GIVEN WITH THE SEED: the statements are not yours to turn. If you find one false, say at which input.
  Laid BY PROGRAM, IN A SANDBOX (cutbox-rows.mjs): the forced cells as the released guide's own fill.sh prints them over the translation 5e498a352daeaf59… (all of the seat's roots in one cut). By AI agents, Wed Nov 11 2026. No macro, syntax, notation, axiom, sorry.
-/
import Derived.Test.YtmkhmlgihkaphaaChecked
import GoSem.Claim
import GoSem.ClaimJoined
import GoSem.ClaimMapViews
import Derived.JoinedTies
import Derived.KernelRfl
namespace Go.Proofs.Ytmkhmlgihkaphaa
/- THE CELL 'sum', in the pinned program and in every row, IS THE sha256 OF THE DUMP (.gsa) THAT YtmkhmlgihkaphaaProg.lean LOADS. Nothing in Lean hashes anything: it is a label: what it is worth is what the hold of that sum in a sandbox is worth. -/
noncomputable def Try.pinned : Pinned := { name := "ytmkhmlgihkaphaa", sum := "5e498a352daeaf59e676d13adf02455d4d9187a22612e87c44d683e27180eb1c", checked := Try.checked }
namespace Rows
def none {H : Type} : Left H := { results := [], args := [] }

/-- 'intrusionlaw01.FieldPuts': WHATEVER THE INPUT: true; the input reads as it did. -/
def fieldPutsSpec : ChangeSpec := { name := "fieldPuts", fn := fun _ => fun
  | [d1, d2] => { results := [.lit (.bool true)], args := [d1, d2] }
  | _ => none }
def fieldPutsRow : OpenClaim := { program := "ytmkhmlgihkaphaa", sum := "5e498a352daeaf59e676d13adf02455d4d9187a22612e87c44d683e27180eb1c", func := "intrusion/intrusionlaw01.FieldPuts", spec := "fieldPuts", recurses := true, apart := false }
def FieldPutsSaid : Prop := fieldPutsRow.holds Try.pinned (OpenSpec.ofChange fieldPutsSpec)

/-- ITS FALSE NEIGHBOUR: 'it returns false'. Refute it at one input. -/
def fieldPutsWrong : ChangeSpec := { name := "fieldPuts", fn := fun _ => fun
  | [d1, d2] => { results := [.lit (.bool false)], args := [d1, d2] }
  | _ => none }
def FieldPutsWrongFalsely : Prop := fieldPutsRow.holds Try.pinned (OpenSpec.ofChange fieldPutsWrong)

/-- 'intrusionlaw01.FieldReads': WHATEVER THE INPUT: true; the input reads as it did. -/
def fieldReadsSpec : ChangeSpec := { name := "fieldReads", fn := fun _ => fun
  | [d1, d2] => { results := [.lit (.bool true)], args := [d1, d2] }
  | _ => none }
def fieldReadsRow : OpenClaim := { program := "ytmkhmlgihkaphaa", sum := "5e498a352daeaf59e676d13adf02455d4d9187a22612e87c44d683e27180eb1c", func := "intrusion/intrusionlaw01.FieldReads", spec := "fieldReads", apart := false }
def FieldReadsSaid : Prop := fieldReadsRow.holds Try.pinned (OpenSpec.ofChange fieldReadsSpec)

/-- ITS FALSE NEIGHBOUR: 'it returns false'. Refute it at one input. -/
def fieldReadsWrong : ChangeSpec := { name := "fieldReads", fn := fun _ => fun
  | [d1, d2] => { results := [.lit (.bool false)], args := [d1, d2] }
  | _ => none }
def FieldReadsWrongFalsely : Prop := fieldReadsRow.holds Try.pinned (OpenSpec.ofChange fieldReadsWrong)

/-- 'intrusionlaw01.FieldPasses': WHATEVER THE INPUT: true; the input reads as it did. -/
def fieldPassesSpec : ChangeSpec := { name := "fieldPasses", fn := fun _ => fun
  | [d1, d2] => { results := [.lit (.bool true)], args := [d1, d2] }
  | _ => none }
def fieldPassesRow : OpenClaim := { program := "ytmkhmlgihkaphaa", sum := "5e498a352daeaf59e676d13adf02455d4d9187a22612e87c44d683e27180eb1c", func := "intrusion/intrusionlaw01.FieldPasses", spec := "fieldPasses", apart := false }
def FieldPassesSaid : Prop := fieldPassesRow.holds Try.pinned (OpenSpec.ofChange fieldPassesSpec)

/-- ITS FALSE NEIGHBOUR: 'it returns false'. Refute it at one input. -/
def fieldPassesWrong : ChangeSpec := { name := "fieldPasses", fn := fun _ => fun
  | [d1, d2] => { results := [.lit (.bool false)], args := [d1, d2] }
  | _ => none }
def FieldPassesWrongFalsely : Prop := fieldPassesRow.holds Try.pinned (OpenSpec.ofChange fieldPassesWrong)

/-- 'intrusionlaw01.FieldGets': WHATEVER THE INPUT: true; the input reads as it did. -/
def fieldGetsSpec : ChangeSpec := { name := "fieldGets", fn := fun _ => fun
  | [d1, d2, d3] => { results := [.lit (.bool true)], args := [d1, d2, d3] }
  | _ => none }
def fieldGetsRow : OpenClaim := { program := "ytmkhmlgihkaphaa", sum := "5e498a352daeaf59e676d13adf02455d4d9187a22612e87c44d683e27180eb1c", func := "intrusion/intrusionlaw01.FieldGets", spec := "fieldGets", apart := false }
def FieldGetsSaid : Prop := fieldGetsRow.holds Try.pinned (OpenSpec.ofChange fieldGetsSpec)

/-- ITS FALSE NEIGHBOUR: 'it returns false'. Refute it at one input. -/
def fieldGetsWrong : ChangeSpec := { name := "fieldGets", fn := fun _ => fun
  | [d1, d2, d3] => { results := [.lit (.bool false)], args := [d1, d2, d3] }
  | _ => none }
def FieldGetsWrongFalsely : Prop := fieldGetsRow.holds Try.pinned (OpenSpec.ofChange fieldGetsWrong)

/-- 'intrusionlaw01.FieldRoundTrip': WHATEVER THE INPUT: true; the input reads as it did. -/
def fieldRoundTripSpec : ChangeSpec := { name := "fieldRoundTrip", fn := fun _ => fun
  | [d1, d2] => { results := [.lit (.bool true)], args := [d1, d2] }
  | _ => none }
def fieldRoundTripRow : OpenClaim := { program := "ytmkhmlgihkaphaa", sum := "5e498a352daeaf59e676d13adf02455d4d9187a22612e87c44d683e27180eb1c", func := "intrusion/intrusionlaw01.FieldRoundTrip", spec := "fieldRoundTrip", apart := false }
def FieldRoundTripSaid : Prop := fieldRoundTripRow.holds Try.pinned (OpenSpec.ofChange fieldRoundTripSpec)

/-- ITS FALSE NEIGHBOUR: 'it returns false'. Refute it at one input. -/
def fieldRoundTripWrong : ChangeSpec := { name := "fieldRoundTrip", fn := fun _ => fun
  | [d1, d2] => { results := [.lit (.bool false)], args := [d1, d2] }
  | _ => none }
def FieldRoundTripWrongFalsely : Prop := fieldRoundTripRow.holds Try.pinned (OpenSpec.ofChange fieldRoundTripWrong)

/- THE SECOND FORM. 'bulk': how many values and letters a reading holds, each counted each time it is reached (what is shared counts as often as it is met; a slice's spare places count too). A statement '..UptoSaid' is the law's where the arguments, and the package variables that the reading takes, are together of bulk at most 1048576: NARROWER than '..Said'. Prove '..Said' where nothing that the law and all that it calls make is longer than what came in: it says more and counts as full. Else prove '..UptoSaid'. A law counts once. -/
mutual
def uptoBulk {H : Type} : DataW H → Nat
  | .lit (.string bytes) => bytes.length + 1
  | .lit _ => 1
  | .nil => 1
  | .ptr d => uptoBulk d + 1
  | .slice elems spare => uptoBulkAll elems + uptoBulkAll spare + 1
  | .agg parts => uptoBulkAll parts + 1
  | .iface _ d => uptoBulk d + 1
  | .map entries => uptoBulkEntries entries + 1
  | .held _ => 1
def uptoBulkAll {H : Type} : List (DataW H) → Nat
  | [] => 0
  | d :: r => uptoBulk d + uptoBulkAll r
def uptoBulkEntries {H : Type} : List (Lit × DataW H) → Nat
  | [] => 0
  | x :: r => uptoBulkEntry x + uptoBulkEntries r
def uptoBulkEntry {H : Type} : Lit × DataW H → Nat
  | (.string bytes, d) => bytes.length + uptoBulk d + 1
  | (_, d) => uptoBulk d + 1
 end
def uptoSmall : (H : Type) → List (DataW H) → Bool := fun _ ds => decide (uptoBulkAll ds ≤ 1048576)
def OpenSpec.upto (s : _root_.Go.ChangeSpec) : _root_.Go.OpenSpec := { _root_.Go.OpenSpec.ofChange s with cond := some uptoSmall }

/-- 'intrusionlaw01.FieldPuts', WHERE WHAT IT READS IS OF BULK AT MOST 1048576: true; the input reads as it did. -/
def fieldPutsUptoRow : OpenClaim := { program := "ytmkhmlgihkaphaa", sum := "5e498a352daeaf59e676d13adf02455d4d9187a22612e87c44d683e27180eb1c", func := "intrusion/intrusionlaw01.FieldPuts", spec := "fieldPuts", recurses := true, apart := false, narrowed := true }
def FieldPutsUptoSaid : Prop := fieldPutsUptoRow.holds Try.pinned (OpenSpec.upto fieldPutsSpec)

/-- 'intrusionlaw01.FieldReads', WHERE WHAT IT READS IS OF BULK AT MOST 1048576: true; the input reads as it did. -/
def fieldReadsUptoRow : OpenClaim := { program := "ytmkhmlgihkaphaa", sum := "5e498a352daeaf59e676d13adf02455d4d9187a22612e87c44d683e27180eb1c", func := "intrusion/intrusionlaw01.FieldReads", spec := "fieldReads", apart := false, narrowed := true }
def FieldReadsUptoSaid : Prop := fieldReadsUptoRow.holds Try.pinned (OpenSpec.upto fieldReadsSpec)

/-- 'intrusionlaw01.FieldPasses', WHERE WHAT IT READS IS OF BULK AT MOST 1048576: true; the input reads as it did. -/
def fieldPassesUptoRow : OpenClaim := { program := "ytmkhmlgihkaphaa", sum := "5e498a352daeaf59e676d13adf02455d4d9187a22612e87c44d683e27180eb1c", func := "intrusion/intrusionlaw01.FieldPasses", spec := "fieldPasses", apart := false, narrowed := true }
def FieldPassesUptoSaid : Prop := fieldPassesUptoRow.holds Try.pinned (OpenSpec.upto fieldPassesSpec)

/-- 'intrusionlaw01.FieldGets', WHERE WHAT IT READS IS OF BULK AT MOST 1048576: true; the input reads as it did. -/
def fieldGetsUptoRow : OpenClaim := { program := "ytmkhmlgihkaphaa", sum := "5e498a352daeaf59e676d13adf02455d4d9187a22612e87c44d683e27180eb1c", func := "intrusion/intrusionlaw01.FieldGets", spec := "fieldGets", apart := false, narrowed := true }
def FieldGetsUptoSaid : Prop := fieldGetsUptoRow.holds Try.pinned (OpenSpec.upto fieldGetsSpec)

/-- 'intrusionlaw01.FieldRoundTrip', WHERE WHAT IT READS IS OF BULK AT MOST 1048576: true; the input reads as it did. -/
def fieldRoundTripUptoRow : OpenClaim := { program := "ytmkhmlgihkaphaa", sum := "5e498a352daeaf59e676d13adf02455d4d9187a22612e87c44d683e27180eb1c", func := "intrusion/intrusionlaw01.FieldRoundTrip", spec := "fieldRoundTrip", apart := false, narrowed := true }
def FieldRoundTripUptoSaid : Prop := fieldRoundTripUptoRow.holds Try.pinned (OpenSpec.upto fieldRoundTripSpec)

end Rows
end Go.Proofs.Ytmkhmlgihkaphaa
