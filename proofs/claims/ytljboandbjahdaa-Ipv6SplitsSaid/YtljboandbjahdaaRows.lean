/-
  No cell of these rows narrows 'for every input' (looked for: loops, veiled, ifaces, maps, wideKeys, modest, calm, conditions, laid).
  DERIVED. THE GIVEN ROWS OF THIS SEAT. 7 by the template 'for every input the law returns true; each argument reads behind the call as it read before'; 0 by the template 'total and deterministic' (their statements: YtljboandbjahdaaTotals.lean).
  GIVEN WITH THE SEED: the statements are not yours to turn. If you find one false, say at which input.
  Laid BY PROGRAM, IN A SANDBOX (cutbox-rows.mjs): the forced cells as the released guide's own fill.sh prints them over the translation be54521f2f8065b3… (all of the seat's roots in one cut). By AI agents, Wed Nov 11 2026. No macro, syntax, notation, axiom, sorry.
-/
import Derived.Test.YtljboandbjahdaaChecked
import GoSem.Claim
import GoSem.ClaimJoined
import GoSem.ClaimMapViews
import Derived.JoinedTies
import Derived.KernelRfl
namespace Go.Proofs.Ytljboandbjahdaa
/- THE CELL 'sum', in the pinned program and in every row, IS THE sha256 OF THE DUMP (.gsa) THAT YtljboandbjahdaaProg.lean LOADS. Nothing in Lean hashes anything: it is a label: what it is worth is what the hold of that sum in a sandbox is worth. -/
noncomputable def Try.pinned : Pinned := { name := "ytljboandbjahdaa", sum := "be54521f2f8065b35ccfcbc8c85c62ba4a0144d1d861030bc70b947320c1b84d", checked := Try.checked }
namespace Rows
def none {H : Type} : Left H := { results := [], args := [] }

/-- 'intrusionlaw12.Ipv6Decodes': WHATEVER THE INPUT: true; the input reads as it did. -/
def ipv6DecodesSpec : ChangeSpec := { name := "ipv6Decodes", fn := fun _ => fun
  | [d] => { results := [.lit (.bool true)], args := [d] }
  | _ => none }
def ipv6DecodesRow : OpenClaim := { program := "ytljboandbjahdaa", sum := "be54521f2f8065b35ccfcbc8c85c62ba4a0144d1d861030bc70b947320c1b84d", func := "intrusion/intrusionlaw12.Ipv6Decodes", spec := "ipv6Decodes", apart := false }
def Ipv6DecodesSaid : Prop := ipv6DecodesRow.holds Try.pinned (OpenSpec.ofChange ipv6DecodesSpec)

/-- ITS FALSE NEIGHBOUR: 'it returns false'. Refute it at one input. -/
def ipv6DecodesWrong : ChangeSpec := { name := "ipv6Decodes", fn := fun _ => fun
  | [d] => { results := [.lit (.bool false)], args := [d] }
  | _ => none }
def Ipv6DecodesWrongFalsely : Prop := ipv6DecodesRow.holds Try.pinned (OpenSpec.ofChange ipv6DecodesWrong)

/-- 'intrusionlaw12.Ipv6Encodes': WHATEVER THE INPUT: true; the input reads as it did. -/
def ipv6EncodesSpec : ChangeSpec := { name := "ipv6Encodes", fn := fun _ => fun
  | [d] => { results := [.lit (.bool true)], args := [d] }
  | _ => none }
def ipv6EncodesRow : OpenClaim := { program := "ytljboandbjahdaa", sum := "be54521f2f8065b35ccfcbc8c85c62ba4a0144d1d861030bc70b947320c1b84d", func := "intrusion/intrusionlaw12.Ipv6Encodes", spec := "ipv6Encodes", apart := false }
def Ipv6EncodesSaid : Prop := ipv6EncodesRow.holds Try.pinned (OpenSpec.ofChange ipv6EncodesSpec)

/-- ITS FALSE NEIGHBOUR: 'it returns false'. Refute it at one input. -/
def ipv6EncodesWrong : ChangeSpec := { name := "ipv6Encodes", fn := fun _ => fun
  | [d] => { results := [.lit (.bool false)], args := [d] }
  | _ => none }
def Ipv6EncodesWrongFalsely : Prop := ipv6EncodesRow.holds Try.pinned (OpenSpec.ofChange ipv6EncodesWrong)

/-- 'intrusionlaw12.Ipv6Splits': WHATEVER THE INPUT: true; the input reads as it did. -/
def ipv6SplitsSpec : ChangeSpec := { name := "ipv6Splits", fn := fun _ => fun
  | [d1, d2, d3] => { results := [.lit (.bool true)], args := [d1, d2, d3] }
  | _ => none }
def ipv6SplitsRow : OpenClaim := { program := "ytljboandbjahdaa", sum := "be54521f2f8065b35ccfcbc8c85c62ba4a0144d1d861030bc70b947320c1b84d", func := "intrusion/intrusionlaw12.Ipv6Splits", spec := "ipv6Splits", apart := false }
def Ipv6SplitsSaid : Prop := ipv6SplitsRow.holds Try.pinned (OpenSpec.ofChange ipv6SplitsSpec)

/-- ITS FALSE NEIGHBOUR: 'it returns false'. Refute it at one input. -/
def ipv6SplitsWrong : ChangeSpec := { name := "ipv6Splits", fn := fun _ => fun
  | [d1, d2, d3] => { results := [.lit (.bool false)], args := [d1, d2, d3] }
  | _ => none }
def Ipv6SplitsWrongFalsely : Prop := ipv6SplitsRow.holds Try.pinned (OpenSpec.ofChange ipv6SplitsWrong)

/-- 'intrusionlaw12.Ipv6Fragments': WHATEVER THE INPUT: true; the input reads as it did. -/
def ipv6FragmentsSpec : ChangeSpec := { name := "ipv6Fragments", fn := fun _ => fun
  | [d] => { results := [.lit (.bool true)], args := [d] }
  | _ => none }
def ipv6FragmentsRow : OpenClaim := { program := "ytljboandbjahdaa", sum := "be54521f2f8065b35ccfcbc8c85c62ba4a0144d1d861030bc70b947320c1b84d", func := "intrusion/intrusionlaw12.Ipv6Fragments", spec := "ipv6Fragments", apart := false }
def Ipv6FragmentsSaid : Prop := ipv6FragmentsRow.holds Try.pinned (OpenSpec.ofChange ipv6FragmentsSpec)

/-- ITS FALSE NEIGHBOUR: 'it returns false'. Refute it at one input. -/
def ipv6FragmentsWrong : ChangeSpec := { name := "ipv6Fragments", fn := fun _ => fun
  | [d] => { results := [.lit (.bool false)], args := [d] }
  | _ => none }
def Ipv6FragmentsWrongFalsely : Prop := ipv6FragmentsRow.holds Try.pinned (OpenSpec.ofChange ipv6FragmentsWrong)

/-- 'intrusionlaw12.Ipv6RoundTrip': WHATEVER THE INPUT: true; the input reads as it did. -/
def ipv6RoundTripSpec : ChangeSpec := { name := "ipv6RoundTrip", fn := fun _ => fun
  | [d1, d2] => { results := [.lit (.bool true)], args := [d1, d2] }
  | _ => none }
def ipv6RoundTripRow : OpenClaim := { program := "ytljboandbjahdaa", sum := "be54521f2f8065b35ccfcbc8c85c62ba4a0144d1d861030bc70b947320c1b84d", func := "intrusion/intrusionlaw12.Ipv6RoundTrip", spec := "ipv6RoundTrip", apart := false }
def Ipv6RoundTripSaid : Prop := ipv6RoundTripRow.holds Try.pinned (OpenSpec.ofChange ipv6RoundTripSpec)

/-- ITS FALSE NEIGHBOUR: 'it returns false'. Refute it at one input. -/
def ipv6RoundTripWrong : ChangeSpec := { name := "ipv6RoundTrip", fn := fun _ => fun
  | [d1, d2] => { results := [.lit (.bool false)], args := [d1, d2] }
  | _ => none }
def Ipv6RoundTripWrongFalsely : Prop := ipv6RoundTripRow.holds Try.pinned (OpenSpec.ofChange ipv6RoundTripWrong)

/-- 'intrusionlaw12.Ipv6Reads': WHATEVER THE INPUT: true; the input reads as it did. -/
def ipv6ReadsSpec : ChangeSpec := { name := "ipv6Reads", fn := fun _ => fun
  | [d] => { results := [.lit (.bool true)], args := [d] }
  | _ => none }
def ipv6ReadsRow : OpenClaim := { program := "ytljboandbjahdaa", sum := "be54521f2f8065b35ccfcbc8c85c62ba4a0144d1d861030bc70b947320c1b84d", func := "intrusion/intrusionlaw12.Ipv6Reads", spec := "ipv6Reads", apart := false }
def Ipv6ReadsSaid : Prop := ipv6ReadsRow.holds Try.pinned (OpenSpec.ofChange ipv6ReadsSpec)

/-- ITS FALSE NEIGHBOUR: 'it returns false'. Refute it at one input. -/
def ipv6ReadsWrong : ChangeSpec := { name := "ipv6Reads", fn := fun _ => fun
  | [d] => { results := [.lit (.bool false)], args := [d] }
  | _ => none }
def Ipv6ReadsWrongFalsely : Prop := ipv6ReadsRow.holds Try.pinned (OpenSpec.ofChange ipv6ReadsWrong)

/-- 'intrusionlaw12.Ipv6Parts': WHATEVER THE INPUT: true; the input reads as it did. -/
def ipv6PartsSpec : ChangeSpec := { name := "ipv6Parts", fn := fun _ => fun
  | [d1, d2, d3] => { results := [.lit (.bool true)], args := [d1, d2, d3] }
  | _ => none }
def ipv6PartsRow : OpenClaim := { program := "ytljboandbjahdaa", sum := "be54521f2f8065b35ccfcbc8c85c62ba4a0144d1d861030bc70b947320c1b84d", func := "intrusion/intrusionlaw12.Ipv6Parts", spec := "ipv6Parts", apart := false }
def Ipv6PartsSaid : Prop := ipv6PartsRow.holds Try.pinned (OpenSpec.ofChange ipv6PartsSpec)

/-- ITS FALSE NEIGHBOUR: 'it returns false'. Refute it at one input. -/
def ipv6PartsWrong : ChangeSpec := { name := "ipv6Parts", fn := fun _ => fun
  | [d1, d2, d3] => { results := [.lit (.bool false)], args := [d1, d2, d3] }
  | _ => none }
def Ipv6PartsWrongFalsely : Prop := ipv6PartsRow.holds Try.pinned (OpenSpec.ofChange ipv6PartsWrong)

/- THE SECOND FORM. 'bulk': how many values and letters a reading holds, each counted each time it is reached (what is shared counts as often as it is met; a slice's spare places count too). A statement '..UptoSaid' is the law's where the arguments, and the package variables that the reading takes, are together of bulk at most 1048576: NARROWER than '..Said'. Prove '..Said' where nothing that the law and all that it calls make is longer than what came in: it says more and counts as full. Else prove '..UptoSaid'. A law counts once. -/
mutual
def uptoBulk {H : Type} : DataW H → Nat
  | .lit (.string bytes) => bytes.length + 1
  | .lit _ => 1
  | .nil => 1
  | .ptr d => uptoBulk d + 1
  | .slice elems spare => uptoBulkAll elems + uptoBulkAll spare + 1
  | .agg parts => uptoBulkAll parts + 1
  | .iface _ d => uptoBulk d + 1
  | .map entries => uptoBulkEntries entries + 1
  | .held _ => 1
def uptoBulkAll {H : Type} : List (DataW H) → Nat
  | [] => 0
  | d :: r => uptoBulk d + uptoBulkAll r
def uptoBulkEntries {H : Type} : List (Lit × DataW H) → Nat
  | [] => 0
  | x :: r => uptoBulkEntry x + uptoBulkEntries r
def uptoBulkEntry {H : Type} : Lit × DataW H → Nat
  | (.string bytes, d) => bytes.length + uptoBulk d + 1
  | (_, d) => uptoBulk d + 1
 end
def uptoSmall : (H : Type) → List (DataW H) → Bool := fun _ ds => decide (uptoBulkAll ds ≤ 1048576)
def OpenSpec.upto (s : _root_.Go.ChangeSpec) : _root_.Go.OpenSpec := { _root_.Go.OpenSpec.ofChange s with cond := some uptoSmall }

/-- 'intrusionlaw12.Ipv6Decodes', WHERE WHAT IT READS IS OF BULK AT MOST 1048576: true; the input reads as it did. -/
def ipv6DecodesUptoRow : OpenClaim := { program := "ytljboandbjahdaa", sum := "be54521f2f8065b35ccfcbc8c85c62ba4a0144d1d861030bc70b947320c1b84d", func := "intrusion/intrusionlaw12.Ipv6Decodes", spec := "ipv6Decodes", apart := false, narrowed := true }
def Ipv6DecodesUptoSaid : Prop := ipv6DecodesUptoRow.holds Try.pinned (OpenSpec.upto ipv6DecodesSpec)

/-- 'intrusionlaw12.Ipv6Encodes', WHERE WHAT IT READS IS OF BULK AT MOST 1048576: true; the input reads as it did. -/
def ipv6EncodesUptoRow : OpenClaim := { program := "ytljboandbjahdaa", sum := "be54521f2f8065b35ccfcbc8c85c62ba4a0144d1d861030bc70b947320c1b84d", func := "intrusion/intrusionlaw12.Ipv6Encodes", spec := "ipv6Encodes", apart := false, narrowed := true }
def Ipv6EncodesUptoSaid : Prop := ipv6EncodesUptoRow.holds Try.pinned (OpenSpec.upto ipv6EncodesSpec)

/-- 'intrusionlaw12.Ipv6Splits', WHERE WHAT IT READS IS OF BULK AT MOST 1048576: true; the input reads as it did. -/
def ipv6SplitsUptoRow : OpenClaim := { program := "ytljboandbjahdaa", sum := "be54521f2f8065b35ccfcbc8c85c62ba4a0144d1d861030bc70b947320c1b84d", func := "intrusion/intrusionlaw12.Ipv6Splits", spec := "ipv6Splits", apart := false, narrowed := true }
def Ipv6SplitsUptoSaid : Prop := ipv6SplitsUptoRow.holds Try.pinned (OpenSpec.upto ipv6SplitsSpec)

/-- 'intrusionlaw12.Ipv6Fragments', WHERE WHAT IT READS IS OF BULK AT MOST 1048576: true; the input reads as it did. -/
def ipv6FragmentsUptoRow : OpenClaim := { program := "ytljboandbjahdaa", sum := "be54521f2f8065b35ccfcbc8c85c62ba4a0144d1d861030bc70b947320c1b84d", func := "intrusion/intrusionlaw12.Ipv6Fragments", spec := "ipv6Fragments", apart := false, narrowed := true }
def Ipv6FragmentsUptoSaid : Prop := ipv6FragmentsUptoRow.holds Try.pinned (OpenSpec.upto ipv6FragmentsSpec)

/-- 'intrusionlaw12.Ipv6RoundTrip', WHERE WHAT IT READS IS OF BULK AT MOST 1048576: true; the input reads as it did. -/
def ipv6RoundTripUptoRow : OpenClaim := { program := "ytljboandbjahdaa", sum := "be54521f2f8065b35ccfcbc8c85c62ba4a0144d1d861030bc70b947320c1b84d", func := "intrusion/intrusionlaw12.Ipv6RoundTrip", spec := "ipv6RoundTrip", apart := false, narrowed := true }
def Ipv6RoundTripUptoSaid : Prop := ipv6RoundTripUptoRow.holds Try.pinned (OpenSpec.upto ipv6RoundTripSpec)

/-- 'intrusionlaw12.Ipv6Reads', WHERE WHAT IT READS IS OF BULK AT MOST 1048576: true; the input reads as it did. -/
def ipv6ReadsUptoRow : OpenClaim := { program := "ytljboandbjahdaa", sum := "be54521f2f8065b35ccfcbc8c85c62ba4a0144d1d861030bc70b947320c1b84d", func := "intrusion/intrusionlaw12.Ipv6Reads", spec := "ipv6Reads", apart := false, narrowed := true }
def Ipv6ReadsUptoSaid : Prop := ipv6ReadsUptoRow.holds Try.pinned (OpenSpec.upto ipv6ReadsSpec)

/-- 'intrusionlaw12.Ipv6Parts', WHERE WHAT IT READS IS OF BULK AT MOST 1048576: true; the input reads as it did. -/
def ipv6PartsUptoRow : OpenClaim := { program := "ytljboandbjahdaa", sum := "be54521f2f8065b35ccfcbc8c85c62ba4a0144d1d861030bc70b947320c1b84d", func := "intrusion/intrusionlaw12.Ipv6Parts", spec := "ipv6Parts", apart := false, narrowed := true }
def Ipv6PartsUptoSaid : Prop := ipv6PartsUptoRow.holds Try.pinned (OpenSpec.upto ipv6PartsSpec)

end Rows
end Go.Proofs.Ytljboandbjahdaa
