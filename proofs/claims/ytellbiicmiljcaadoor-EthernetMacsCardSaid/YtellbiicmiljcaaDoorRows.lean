/-
  NARROWER THAN 'FOR EVERY INPUT', by the rows' own cells (each row's printed sentence says how): EthernetDecodes: laid · EthernetMacs: laid · EthernetEncodes: laid · EthernetRoundTrip: laid · EthernetAgain: laid.
  DERIVED. THE GIVEN ROWS OF THIS SEAT. 5 by the template 'for every input the law returns true; each argument reads behind the call as it read before'; 0 by the template 'total and deterministic' (their statements: YtellbiicmiljcaaDoorTotals.lean).
  GIVEN WITH THE SEED: the statements are not yours to turn. If you find one false, say at which input.
  Laid BY PROGRAM, IN A SANDBOX (cutbox-rows.mjs): the forced cells as the released guide's own fill.sh prints them over the translation 52d353a698835966… (all of the seat's roots in one cut). By AI agents, Wed Nov 11 2026. No macro, syntax, notation, axiom, sorry.
-/
import Derived.Test.YtellbiicmiljcaaDoorChecked
import GoSem.Claim
import GoSem.ClaimJoined
import GoSem.ClaimMapViews
import Derived.JoinedTies
import Derived.KernelRfl
namespace Go.Proofs.YtellbiicmiljcaaDoor
/- THE CELL 'sum', in the pinned program and in every row, IS THE sha256 OF THE DUMP (.gsa) THAT YtellbiicmiljcaaDoorProg.lean LOADS. Nothing in Lean hashes anything: it is a label: what it is worth is what the hold of that sum in a sandbox is worth. -/
noncomputable def Tryd.pinned : Pinned := { name := "ytellbiicmiljcaadoor", sum := "52d353a698835966c90a182173cc2842060928e249de1feb85eda4792d13fa9b", checked := Tryd.checked }
namespace Rows
def none {H : Type} : Left H := { results := [], args := [] }

/- WHAT THE LISTED PACKAGE-LEVEL VARIABLES READ AS WHEN THE CALL BEGINS. Each datum BY PROGRAM (the guide's laid-datum.mjs) off the statement by which the dump's own 'gosem.cut.vars' lays the variable. In a bare row this is a premise. The card (YtellbiicmiljcaaDoorCards.lean) ties it to the program's text. -/
def laid_intrusion_ethernet_tags {H : Type} : DataW H := .agg [.lit (.int .i64 33024), .lit (.int .i64 34984)]

/-- 'intrusionlaw10.EthernetDecodes': WHATEVER THE INPUT: true; the input reads as it did. -/
def ethernetDecodesSpec : ChangeSpec := { name := "ethernetDecodes", fn := fun _ => fun
  | [d] => { results := [.lit (.bool true)], args := [d] }
  | _ => none }
def ethernetDecodesRow : OpenClaim := { program := "ytellbiicmiljcaadoor", sum := "52d353a698835966c90a182173cc2842060928e249de1feb85eda4792d13fa9b", func := "intrusion/intrusionlaw10.EthernetDecodes", spec := "ethernetDecodes", named := ["intrusion/ethernet.tags"], apart := false, laid := [("intrusion/ethernet.tags", laid_intrusion_ethernet_tags)] }
def EthernetDecodesSaid : Prop := ethernetDecodesRow.holds Tryd.pinned (OpenSpec.ofChange ethernetDecodesSpec)

/-- ITS FALSE NEIGHBOUR: 'it returns false'. Refute it at one input. -/
def ethernetDecodesWrong : ChangeSpec := { name := "ethernetDecodes", fn := fun _ => fun
  | [d] => { results := [.lit (.bool false)], args := [d] }
  | _ => none }
def EthernetDecodesWrongFalsely : Prop := ethernetDecodesRow.holds Tryd.pinned (OpenSpec.ofChange ethernetDecodesWrong)

/-- 'intrusionlaw10.EthernetMacs': WHATEVER THE INPUT: true; the input reads as it did. -/
def ethernetMacsSpec : ChangeSpec := { name := "ethernetMacs", fn := fun _ => fun
  | [d1, d2] => { results := [.lit (.bool true)], args := [d1, d2] }
  | _ => none }
def ethernetMacsRow : OpenClaim := { program := "ytellbiicmiljcaadoor", sum := "52d353a698835966c90a182173cc2842060928e249de1feb85eda4792d13fa9b", func := "intrusion/intrusionlaw10.EthernetMacs", spec := "ethernetMacs", recurses := true, named := ["intrusion/ethernet.tags"], apart := false, laid := [("intrusion/ethernet.tags", laid_intrusion_ethernet_tags)] }
def EthernetMacsSaid : Prop := ethernetMacsRow.holds Tryd.pinned (OpenSpec.ofChange ethernetMacsSpec)

/-- ITS FALSE NEIGHBOUR: 'it returns false'. Refute it at one input. -/
def ethernetMacsWrong : ChangeSpec := { name := "ethernetMacs", fn := fun _ => fun
  | [d1, d2] => { results := [.lit (.bool false)], args := [d1, d2] }
  | _ => none }
def EthernetMacsWrongFalsely : Prop := ethernetMacsRow.holds Tryd.pinned (OpenSpec.ofChange ethernetMacsWrong)

/-- 'intrusionlaw10.EthernetEncodes': WHATEVER THE INPUT: true; the input reads as it did. -/
def ethernetEncodesSpec : ChangeSpec := { name := "ethernetEncodes", fn := fun _ => fun
  | [d] => { results := [.lit (.bool true)], args := [d] }
  | _ => none }
def ethernetEncodesRow : OpenClaim := { program := "ytellbiicmiljcaadoor", sum := "52d353a698835966c90a182173cc2842060928e249de1feb85eda4792d13fa9b", func := "intrusion/intrusionlaw10.EthernetEncodes", spec := "ethernetEncodes", recurses := true, named := ["intrusion/ethernet.tags"], apart := false, laid := [("intrusion/ethernet.tags", laid_intrusion_ethernet_tags)] }
def EthernetEncodesSaid : Prop := ethernetEncodesRow.holds Tryd.pinned (OpenSpec.ofChange ethernetEncodesSpec)

/-- ITS FALSE NEIGHBOUR: 'it returns false'. Refute it at one input. -/
def ethernetEncodesWrong : ChangeSpec := { name := "ethernetEncodes", fn := fun _ => fun
  | [d] => { results := [.lit (.bool false)], args := [d] }
  | _ => none }
def EthernetEncodesWrongFalsely : Prop := ethernetEncodesRow.holds Tryd.pinned (OpenSpec.ofChange ethernetEncodesWrong)

/-- 'intrusionlaw10.EthernetRoundTrip': WHATEVER THE INPUT: true; the input reads as it did. -/
def ethernetRoundTripSpec : ChangeSpec := { name := "ethernetRoundTrip", fn := fun _ => fun
  | [d] => { results := [.lit (.bool true)], args := [d] }
  | _ => none }
def ethernetRoundTripRow : OpenClaim := { program := "ytellbiicmiljcaadoor", sum := "52d353a698835966c90a182173cc2842060928e249de1feb85eda4792d13fa9b", func := "intrusion/intrusionlaw10.EthernetRoundTrip", spec := "ethernetRoundTrip", named := ["intrusion/ethernet.tags"], apart := false, laid := [("intrusion/ethernet.tags", laid_intrusion_ethernet_tags)] }
def EthernetRoundTripSaid : Prop := ethernetRoundTripRow.holds Tryd.pinned (OpenSpec.ofChange ethernetRoundTripSpec)

/-- ITS FALSE NEIGHBOUR: 'it returns false'. Refute it at one input. -/
def ethernetRoundTripWrong : ChangeSpec := { name := "ethernetRoundTrip", fn := fun _ => fun
  | [d] => { results := [.lit (.bool false)], args := [d] }
  | _ => none }
def EthernetRoundTripWrongFalsely : Prop := ethernetRoundTripRow.holds Tryd.pinned (OpenSpec.ofChange ethernetRoundTripWrong)

/-- 'intrusionlaw10.EthernetAgain': WHATEVER THE INPUT: true; the input reads as it did. -/
def ethernetAgainSpec : ChangeSpec := { name := "ethernetAgain", fn := fun _ => fun
  | [d] => { results := [.lit (.bool true)], args := [d] }
  | _ => none }
def ethernetAgainRow : OpenClaim := { program := "ytellbiicmiljcaadoor", sum := "52d353a698835966c90a182173cc2842060928e249de1feb85eda4792d13fa9b", func := "intrusion/intrusionlaw10.EthernetAgain", spec := "ethernetAgain", named := ["intrusion/ethernet.tags"], apart := false, laid := [("intrusion/ethernet.tags", laid_intrusion_ethernet_tags)] }
def EthernetAgainSaid : Prop := ethernetAgainRow.holds Tryd.pinned (OpenSpec.ofChange ethernetAgainSpec)

/-- ITS FALSE NEIGHBOUR: 'it returns false'. Refute it at one input. -/
def ethernetAgainWrong : ChangeSpec := { name := "ethernetAgain", fn := fun _ => fun
  | [d] => { results := [.lit (.bool false)], args := [d] }
  | _ => none }
def EthernetAgainWrongFalsely : Prop := ethernetAgainRow.holds Tryd.pinned (OpenSpec.ofChange ethernetAgainWrong)

/- THE SECOND FORM. 'bulk': how many values and letters a reading holds, each counted each time it is reached (what is shared counts as often as it is met; a slice's spare places count too). A statement '..UptoSaid' is the law's where the arguments, and the package variables that the reading takes, are together of bulk at most 1048576: NARROWER than '..Said'. Prove '..Said' where nothing that the law and all that it calls make is longer than what came in: it says more and counts as full. Else prove '..UptoSaid'. A law counts once. -/
mutual
def uptoBulk {H : Type} : DataW H → Nat
  | .lit (.string bytes) => bytes.length + 1
  | .lit _ => 1
  | .nil => 1
  | .ptr d => uptoBulk d + 1
  | .slice elems spare => uptoBulkAll elems + uptoBulkAll spare + 1
  | .agg parts => uptoBulkAll parts + 1
  | .iface _ d => uptoBulk d + 1
  | .map entries => uptoBulkEntries entries + 1
  | .held _ => 1
def uptoBulkAll {H : Type} : List (DataW H) → Nat
  | [] => 0
  | d :: r => uptoBulk d + uptoBulkAll r
def uptoBulkEntries {H : Type} : List (Lit × DataW H) → Nat
  | [] => 0
  | x :: r => uptoBulkEntry x + uptoBulkEntries r
def uptoBulkEntry {H : Type} : Lit × DataW H → Nat
  | (.string bytes, d) => bytes.length + uptoBulk d + 1
  | (_, d) => uptoBulk d + 1
 end
def uptoSmall : (H : Type) → List (DataW H) → Bool := fun _ ds => decide (uptoBulkAll ds ≤ 1048576)
def OpenSpec.upto (s : _root_.Go.ChangeSpec) : _root_.Go.OpenSpec := { _root_.Go.OpenSpec.ofChange s with cond := some uptoSmall }

/-- 'intrusionlaw10.EthernetDecodes', WHERE WHAT IT READS IS OF BULK AT MOST 1048576: true; the input reads as it did. -/
def ethernetDecodesUptoRow : OpenClaim := { program := "ytellbiicmiljcaadoor", sum := "52d353a698835966c90a182173cc2842060928e249de1feb85eda4792d13fa9b", func := "intrusion/intrusionlaw10.EthernetDecodes", spec := "ethernetDecodes", named := ["intrusion/ethernet.tags"], apart := false, laid := [("intrusion/ethernet.tags", laid_intrusion_ethernet_tags)], narrowed := true }
def EthernetDecodesUptoSaid : Prop := ethernetDecodesUptoRow.holds Tryd.pinned (OpenSpec.upto ethernetDecodesSpec)

/-- 'intrusionlaw10.EthernetMacs', WHERE WHAT IT READS IS OF BULK AT MOST 1048576: true; the input reads as it did. -/
def ethernetMacsUptoRow : OpenClaim := { program := "ytellbiicmiljcaadoor", sum := "52d353a698835966c90a182173cc2842060928e249de1feb85eda4792d13fa9b", func := "intrusion/intrusionlaw10.EthernetMacs", spec := "ethernetMacs", recurses := true, named := ["intrusion/ethernet.tags"], apart := false, laid := [("intrusion/ethernet.tags", laid_intrusion_ethernet_tags)], narrowed := true }
def EthernetMacsUptoSaid : Prop := ethernetMacsUptoRow.holds Tryd.pinned (OpenSpec.upto ethernetMacsSpec)

/-- 'intrusionlaw10.EthernetEncodes', WHERE WHAT IT READS IS OF BULK AT MOST 1048576: true; the input reads as it did. -/
def ethernetEncodesUptoRow : OpenClaim := { program := "ytellbiicmiljcaadoor", sum := "52d353a698835966c90a182173cc2842060928e249de1feb85eda4792d13fa9b", func := "intrusion/intrusionlaw10.EthernetEncodes", spec := "ethernetEncodes", recurses := true, named := ["intrusion/ethernet.tags"], apart := false, laid := [("intrusion/ethernet.tags", laid_intrusion_ethernet_tags)], narrowed := true }
def EthernetEncodesUptoSaid : Prop := ethernetEncodesUptoRow.holds Tryd.pinned (OpenSpec.upto ethernetEncodesSpec)

/-- 'intrusionlaw10.EthernetRoundTrip', WHERE WHAT IT READS IS OF BULK AT MOST 1048576: true; the input reads as it did. -/
def ethernetRoundTripUptoRow : OpenClaim := { program := "ytellbiicmiljcaadoor", sum := "52d353a698835966c90a182173cc2842060928e249de1feb85eda4792d13fa9b", func := "intrusion/intrusionlaw10.EthernetRoundTrip", spec := "ethernetRoundTrip", named := ["intrusion/ethernet.tags"], apart := false, laid := [("intrusion/ethernet.tags", laid_intrusion_ethernet_tags)], narrowed := true }
def EthernetRoundTripUptoSaid : Prop := ethernetRoundTripUptoRow.holds Tryd.pinned (OpenSpec.upto ethernetRoundTripSpec)

/-- 'intrusionlaw10.EthernetAgain', WHERE WHAT IT READS IS OF BULK AT MOST 1048576: true; the input reads as it did. -/
def ethernetAgainUptoRow : OpenClaim := { program := "ytellbiicmiljcaadoor", sum := "52d353a698835966c90a182173cc2842060928e249de1feb85eda4792d13fa9b", func := "intrusion/intrusionlaw10.EthernetAgain", spec := "ethernetAgain", named := ["intrusion/ethernet.tags"], apart := false, laid := [("intrusion/ethernet.tags", laid_intrusion_ethernet_tags)], narrowed := true }
def EthernetAgainUptoSaid : Prop := ethernetAgainUptoRow.holds Tryd.pinned (OpenSpec.upto ethernetAgainSpec)

end Rows
end Go.Proofs.YtellbiicmiljcaaDoor
