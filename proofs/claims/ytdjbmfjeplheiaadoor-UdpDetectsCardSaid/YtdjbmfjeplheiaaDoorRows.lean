/-
  NARROWER THAN 'FOR EVERY INPUT', by the rows' own cells (each row's printed sentence says how): UdpDecodes: laid · UdpEncodes: laid · UdpRoundTrip: laid · UdpDetects: laid.
  DERIVED. THE GIVEN ROWS OF THIS SEAT. 4 by the template 'for every input the law returns true; each argument reads behind the call as it read before'; 0 by the template 'total and deterministic' (their statements: YtdjbmfjeplheiaaDoorTotals.lean).
  GIVEN WITH THE SEED: the statements are not yours to turn. If you find one false, say at which input.
  Laid BY PROGRAM, IN A SANDBOX (cutbox-rows.mjs): the forced cells as the released guide's own fill.sh prints them over the translation 5d35cf65ea58f9d8… (all of the seat's roots in one cut). By AI agents, Wed Nov 11 2026. No macro, syntax, notation, axiom, sorry.
-/
import Derived.Test.YtdjbmfjeplheiaaDoorChecked
import GoSem.Claim
import GoSem.ClaimJoined
import GoSem.ClaimMapViews
import Derived.JoinedTies
import Derived.KernelRfl
namespace Go.Proofs.YtdjbmfjeplheiaaDoor
/- THE CELL 'sum', in the pinned program and in every row, IS THE sha256 OF THE DUMP (.gsa) THAT YtdjbmfjeplheiaaDoorProg.lean LOADS. Nothing in Lean hashes anything: it is a label: what it is worth is what the hold of that sum in a sandbox is worth. -/
noncomputable def Tryd.pinned : Pinned := { name := "ytdjbmfjeplheiaadoor", sum := "5d35cf65ea58f9d863439e634cc4fc47b2c3644dd6ecfc3956e0a9d1aa2b06f5", checked := Tryd.checked }
namespace Rows
def none {H : Type} : Left H := { results := [], args := [] }

/- WHAT THE LISTED PACKAGE-LEVEL VARIABLES READ AS WHEN THE CALL BEGINS. Each datum BY PROGRAM (the guide's laid-datum.mjs) off the statement by which the dump's own 'gosem.cut.vars' lays the variable. In a bare row this is a premise. The card (YtdjbmfjeplheiaaDoorCards.lean) ties it to the program's text. -/
def laid_intrusion_checksum_shifts {H : Type} : DataW H := .agg [.lit (.int .u64 56), .lit (.int .u64 48), .lit (.int .u64 40), .lit (.int .u64 32), .lit (.int .u64 24), .lit (.int .u64 16), .lit (.int .u64 8), .lit (.int .u64 0)]

/-- 'intrusionlaw13.UdpDecodes': WHATEVER THE INPUT: true; the input reads as it did. -/
def udpDecodesSpec : ChangeSpec := { name := "udpDecodes", fn := fun _ => fun
  | [d1, d2] => { results := [.lit (.bool true)], args := [d1, d2] }
  | _ => none }
def udpDecodesRow : OpenClaim := { program := "ytdjbmfjeplheiaadoor", sum := "5d35cf65ea58f9d863439e634cc4fc47b2c3644dd6ecfc3956e0a9d1aa2b06f5", func := "intrusion/intrusionlaw13.UdpDecodes", spec := "udpDecodes", named := ["intrusion/checksum.shifts"], apart := false, laid := [("intrusion/checksum.shifts", laid_intrusion_checksum_shifts)] }
def UdpDecodesSaid : Prop := udpDecodesRow.holds Tryd.pinned (OpenSpec.ofChange udpDecodesSpec)

/-- ITS FALSE NEIGHBOUR: 'it returns false'. Refute it at one input. -/
def udpDecodesWrong : ChangeSpec := { name := "udpDecodes", fn := fun _ => fun
  | [d1, d2] => { results := [.lit (.bool false)], args := [d1, d2] }
  | _ => none }
def UdpDecodesWrongFalsely : Prop := udpDecodesRow.holds Tryd.pinned (OpenSpec.ofChange udpDecodesWrong)

/-- 'intrusionlaw13.UdpEncodes': WHATEVER THE INPUT: true; the input reads as it did. -/
def udpEncodesSpec : ChangeSpec := { name := "udpEncodes", fn := fun _ => fun
  | [d1, d2] => { results := [.lit (.bool true)], args := [d1, d2] }
  | _ => none }
def udpEncodesRow : OpenClaim := { program := "ytdjbmfjeplheiaadoor", sum := "5d35cf65ea58f9d863439e634cc4fc47b2c3644dd6ecfc3956e0a9d1aa2b06f5", func := "intrusion/intrusionlaw13.UdpEncodes", spec := "udpEncodes", recurses := true, named := ["intrusion/checksum.shifts"], apart := false, laid := [("intrusion/checksum.shifts", laid_intrusion_checksum_shifts)] }
def UdpEncodesSaid : Prop := udpEncodesRow.holds Tryd.pinned (OpenSpec.ofChange udpEncodesSpec)

/-- ITS FALSE NEIGHBOUR: 'it returns false'. Refute it at one input. -/
def udpEncodesWrong : ChangeSpec := { name := "udpEncodes", fn := fun _ => fun
  | [d1, d2] => { results := [.lit (.bool false)], args := [d1, d2] }
  | _ => none }
def UdpEncodesWrongFalsely : Prop := udpEncodesRow.holds Tryd.pinned (OpenSpec.ofChange udpEncodesWrong)

/-- 'intrusionlaw13.UdpRoundTrip': WHATEVER THE INPUT: true; the input reads as it did. -/
def udpRoundTripSpec : ChangeSpec := { name := "udpRoundTrip", fn := fun _ => fun
  | [d1, d2, d3] => { results := [.lit (.bool true)], args := [d1, d2, d3] }
  | _ => none }
def udpRoundTripRow : OpenClaim := { program := "ytdjbmfjeplheiaadoor", sum := "5d35cf65ea58f9d863439e634cc4fc47b2c3644dd6ecfc3956e0a9d1aa2b06f5", func := "intrusion/intrusionlaw13.UdpRoundTrip", spec := "udpRoundTrip", named := ["intrusion/checksum.shifts"], apart := false, laid := [("intrusion/checksum.shifts", laid_intrusion_checksum_shifts)] }
def UdpRoundTripSaid : Prop := udpRoundTripRow.holds Tryd.pinned (OpenSpec.ofChange udpRoundTripSpec)

/-- ITS FALSE NEIGHBOUR: 'it returns false'. Refute it at one input. -/
def udpRoundTripWrong : ChangeSpec := { name := "udpRoundTrip", fn := fun _ => fun
  | [d1, d2, d3] => { results := [.lit (.bool false)], args := [d1, d2, d3] }
  | _ => none }
def UdpRoundTripWrongFalsely : Prop := udpRoundTripRow.holds Tryd.pinned (OpenSpec.ofChange udpRoundTripWrong)

/-- 'intrusionlaw13.UdpDetects': WHATEVER THE INPUT: true; the input reads as it did. -/
def udpDetectsSpec : ChangeSpec := { name := "udpDetects", fn := fun _ => fun
  | [d1, d2, d3] => { results := [.lit (.bool true)], args := [d1, d2, d3] }
  | _ => none }
def udpDetectsRow : OpenClaim := { program := "ytdjbmfjeplheiaadoor", sum := "5d35cf65ea58f9d863439e634cc4fc47b2c3644dd6ecfc3956e0a9d1aa2b06f5", func := "intrusion/intrusionlaw13.UdpDetects", spec := "udpDetects", named := ["intrusion/checksum.shifts"], apart := false, laid := [("intrusion/checksum.shifts", laid_intrusion_checksum_shifts)] }
def UdpDetectsSaid : Prop := udpDetectsRow.holds Tryd.pinned (OpenSpec.ofChange udpDetectsSpec)

/-- ITS FALSE NEIGHBOUR: 'it returns false'. Refute it at one input. -/
def udpDetectsWrong : ChangeSpec := { name := "udpDetects", fn := fun _ => fun
  | [d1, d2, d3] => { results := [.lit (.bool false)], args := [d1, d2, d3] }
  | _ => none }
def UdpDetectsWrongFalsely : Prop := udpDetectsRow.holds Tryd.pinned (OpenSpec.ofChange udpDetectsWrong)

/- THE SECOND FORM. 'bulk': how many values and letters a reading holds, each counted each time it is reached (what is shared counts as often as it is met; a slice's spare places count too). A statement '..UptoSaid' is the law's where the arguments, and the package variables that the reading takes, are together of bulk at most 1048576: NARROWER than '..Said'. Prove '..Said' where nothing that the law and all that it calls make is longer than what came in: it says more and counts as full. Else prove '..UptoSaid'. A law counts once. -/
mutual
def uptoBulk {H : Type} : DataW H → Nat
  | .lit (.string bytes) => bytes.length + 1
  | .lit _ => 1
  | .nil => 1
  | .ptr d => uptoBulk d + 1
  | .slice elems spare => uptoBulkAll elems + uptoBulkAll spare + 1
  | .agg parts => uptoBulkAll parts + 1
  | .iface _ d => uptoBulk d + 1
  | .map entries => uptoBulkEntries entries + 1
  | .held _ => 1
def uptoBulkAll {H : Type} : List (DataW H) → Nat
  | [] => 0
  | d :: r => uptoBulk d + uptoBulkAll r
def uptoBulkEntries {H : Type} : List (Lit × DataW H) → Nat
  | [] => 0
  | x :: r => uptoBulkEntry x + uptoBulkEntries r
def uptoBulkEntry {H : Type} : Lit × DataW H → Nat
  | (.string bytes, d) => bytes.length + uptoBulk d + 1
  | (_, d) => uptoBulk d + 1
 end
def uptoSmall : (H : Type) → List (DataW H) → Bool := fun _ ds => decide (uptoBulkAll ds ≤ 1048576)
def OpenSpec.upto (s : _root_.Go.ChangeSpec) : _root_.Go.OpenSpec := { _root_.Go.OpenSpec.ofChange s with cond := some uptoSmall }

/-- 'intrusionlaw13.UdpDecodes', WHERE WHAT IT READS IS OF BULK AT MOST 1048576: true; the input reads as it did. -/
def udpDecodesUptoRow : OpenClaim := { program := "ytdjbmfjeplheiaadoor", sum := "5d35cf65ea58f9d863439e634cc4fc47b2c3644dd6ecfc3956e0a9d1aa2b06f5", func := "intrusion/intrusionlaw13.UdpDecodes", spec := "udpDecodes", named := ["intrusion/checksum.shifts"], apart := false, laid := [("intrusion/checksum.shifts", laid_intrusion_checksum_shifts)], narrowed := true }
def UdpDecodesUptoSaid : Prop := udpDecodesUptoRow.holds Tryd.pinned (OpenSpec.upto udpDecodesSpec)

/-- 'intrusionlaw13.UdpEncodes', WHERE WHAT IT READS IS OF BULK AT MOST 1048576: true; the input reads as it did. -/
def udpEncodesUptoRow : OpenClaim := { program := "ytdjbmfjeplheiaadoor", sum := "5d35cf65ea58f9d863439e634cc4fc47b2c3644dd6ecfc3956e0a9d1aa2b06f5", func := "intrusion/intrusionlaw13.UdpEncodes", spec := "udpEncodes", recurses := true, named := ["intrusion/checksum.shifts"], apart := false, laid := [("intrusion/checksum.shifts", laid_intrusion_checksum_shifts)], narrowed := true }
def UdpEncodesUptoSaid : Prop := udpEncodesUptoRow.holds Tryd.pinned (OpenSpec.upto udpEncodesSpec)

/-- 'intrusionlaw13.UdpRoundTrip', WHERE WHAT IT READS IS OF BULK AT MOST 1048576: true; the input reads as it did. -/
def udpRoundTripUptoRow : OpenClaim := { program := "ytdjbmfjeplheiaadoor", sum := "5d35cf65ea58f9d863439e634cc4fc47b2c3644dd6ecfc3956e0a9d1aa2b06f5", func := "intrusion/intrusionlaw13.UdpRoundTrip", spec := "udpRoundTrip", named := ["intrusion/checksum.shifts"], apart := false, laid := [("intrusion/checksum.shifts", laid_intrusion_checksum_shifts)], narrowed := true }
def UdpRoundTripUptoSaid : Prop := udpRoundTripUptoRow.holds Tryd.pinned (OpenSpec.upto udpRoundTripSpec)

/-- 'intrusionlaw13.UdpDetects', WHERE WHAT IT READS IS OF BULK AT MOST 1048576: true; the input reads as it did. -/
def udpDetectsUptoRow : OpenClaim := { program := "ytdjbmfjeplheiaadoor", sum := "5d35cf65ea58f9d863439e634cc4fc47b2c3644dd6ecfc3956e0a9d1aa2b06f5", func := "intrusion/intrusionlaw13.UdpDetects", spec := "udpDetects", named := ["intrusion/checksum.shifts"], apart := false, laid := [("intrusion/checksum.shifts", laid_intrusion_checksum_shifts)], narrowed := true }
def UdpDetectsUptoSaid : Prop := udpDetectsUptoRow.holds Tryd.pinned (OpenSpec.upto udpDetectsSpec)

end Rows
end Go.Proofs.YtdjbmfjeplheiaaDoor
