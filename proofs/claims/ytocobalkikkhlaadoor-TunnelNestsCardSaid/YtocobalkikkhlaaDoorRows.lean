/-
  NARROWER THAN 'FOR EVERY INPUT', by the rows' own cells (each row's printed sentence says how): TunnelGre: laid · TunnelNests: laid · TunnelInner: laid · TunnelNotices: laid · TunnelFrames: laid · TunnelWraps: laid · TunnelRoundTrip: laid.
  DERIVED. THE GIVEN ROWS OF THIS SEAT. 7 by the template 'for every input the law returns true; each argument reads behind the call as it read before'; 0 by the template 'total and deterministic' (their statements: YtocobalkikkhlaaDoorTotals.lean).
  GIVEN WITH THE SEED: the statements are not yours to turn. If you find one false, say at which input.
  Laid BY PROGRAM, IN A SANDBOX (cutbox-rows.mjs): the forced cells as the released guide's own fill.sh prints them over the translation 08fc01e466f0c696… (all of the seat's roots in one cut). By AI agents, Wed Nov 11 2026. No macro, syntax, notation, axiom, sorry.
-/
import Derived.Test.YtocobalkikkhlaaDoorChecked
import GoSem.Claim
import GoSem.ClaimJoined
import GoSem.ClaimMapViews
import Derived.JoinedTies
import Derived.KernelRfl
namespace Go.Proofs.YtocobalkikkhlaaDoor
/- THE CELL 'sum', in the pinned program and in every row, IS THE sha256 OF THE DUMP (.gsa) THAT YtocobalkikkhlaaDoorProg.lean LOADS. Nothing in Lean hashes anything: it is a label: what it is worth is what the hold of that sum in a sandbox is worth. -/
noncomputable def Tryd.pinned : Pinned := { name := "ytocobalkikkhlaadoor", sum := "08fc01e466f0c6960df95acf86d904227fa56d026c3d4a4f5a500aa5d89fd907", checked := Tryd.checked }
namespace Rows
def none {H : Type} : Left H := { results := [], args := [] }

/- WHAT THE LISTED PACKAGE-LEVEL VARIABLES READ AS WHEN THE CALL BEGINS. Each datum BY PROGRAM (the guide's laid-datum.mjs) off the statement by which the dump's own 'gosem.cut.vars' lays the variable. In a bare row this is a premise. The card (YtocobalkikkhlaaDoorCards.lean) ties it to the program's text. -/
def laid_intrusion_checksum_shifts {H : Type} : DataW H := .agg [.lit (.int .u64 56), .lit (.int .u64 48), .lit (.int .u64 40), .lit (.int .u64 32), .lit (.int .u64 24), .lit (.int .u64 16), .lit (.int .u64 8), .lit (.int .u64 0)]
def laid_intrusion_ethernet_tags {H : Type} : DataW H := .agg [.lit (.int .i64 33024), .lit (.int .i64 34984)]

/-- 'intrusionlaw17.TunnelGre': WHATEVER THE INPUT: true; the input reads as it did. -/
def tunnelGreSpec : ChangeSpec := { name := "tunnelGre", fn := fun _ => fun
  | [d1, d2, d3] => { results := [.lit (.bool true)], args := [d1, d2, d3] }
  | _ => none }
def tunnelGreRow : OpenClaim := { program := "ytocobalkikkhlaadoor", sum := "08fc01e466f0c6960df95acf86d904227fa56d026c3d4a4f5a500aa5d89fd907", func := "intrusion/intrusionlaw17.TunnelGre", spec := "tunnelGre", inPlace := ["internal/abi.NoEscape"], unfollowed := true, recurses := true, named := ["intrusion/checksum.shifts"], apart := false, laid := [("intrusion/checksum.shifts", laid_intrusion_checksum_shifts)] }
def TunnelGreSaid : Prop := tunnelGreRow.holds Tryd.pinned (OpenSpec.ofChange tunnelGreSpec)

/-- ITS FALSE NEIGHBOUR: 'it returns false'. Refute it at one input. -/
def tunnelGreWrong : ChangeSpec := { name := "tunnelGre", fn := fun _ => fun
  | [d1, d2, d3] => { results := [.lit (.bool false)], args := [d1, d2, d3] }
  | _ => none }
def TunnelGreWrongFalsely : Prop := tunnelGreRow.holds Tryd.pinned (OpenSpec.ofChange tunnelGreWrong)

/-- 'intrusionlaw17.TunnelNests': WHATEVER THE INPUT: true; the input reads as it did. -/
def tunnelNestsSpec : ChangeSpec := { name := "tunnelNests", fn := fun _ => fun
  | [d1, d2, d3, d4] => { results := [.lit (.bool true)], args := [d1, d2, d3, d4] }
  | _ => none }
def tunnelNestsRow : OpenClaim := { program := "ytocobalkikkhlaadoor", sum := "08fc01e466f0c6960df95acf86d904227fa56d026c3d4a4f5a500aa5d89fd907", func := "intrusion/intrusionlaw17.TunnelNests", spec := "tunnelNests", inPlace := ["internal/abi.NoEscape"], unfollowed := true, recurses := true, named := ["intrusion/checksum.shifts"], apart := false, laid := [("intrusion/checksum.shifts", laid_intrusion_checksum_shifts)] }
def TunnelNestsSaid : Prop := tunnelNestsRow.holds Tryd.pinned (OpenSpec.ofChange tunnelNestsSpec)

/-- ITS FALSE NEIGHBOUR: 'it returns false'. Refute it at one input. -/
def tunnelNestsWrong : ChangeSpec := { name := "tunnelNests", fn := fun _ => fun
  | [d1, d2, d3, d4] => { results := [.lit (.bool false)], args := [d1, d2, d3, d4] }
  | _ => none }
def TunnelNestsWrongFalsely : Prop := tunnelNestsRow.holds Tryd.pinned (OpenSpec.ofChange tunnelNestsWrong)

/-- 'intrusionlaw17.TunnelInner': WHATEVER THE INPUT: true; the input reads as it did. -/
def tunnelInnerSpec : ChangeSpec := { name := "tunnelInner", fn := fun _ => fun
  | [d] => { results := [.lit (.bool true)], args := [d] }
  | _ => none }
def tunnelInnerRow : OpenClaim := { program := "ytocobalkikkhlaadoor", sum := "08fc01e466f0c6960df95acf86d904227fa56d026c3d4a4f5a500aa5d89fd907", func := "intrusion/intrusionlaw17.TunnelInner", spec := "tunnelInner", unfollowed := true, recurses := true, named := ["intrusion/checksum.shifts"], apart := false, laid := [("intrusion/checksum.shifts", laid_intrusion_checksum_shifts)] }
def TunnelInnerSaid : Prop := tunnelInnerRow.holds Tryd.pinned (OpenSpec.ofChange tunnelInnerSpec)

/-- ITS FALSE NEIGHBOUR: 'it returns false'. Refute it at one input. -/
def tunnelInnerWrong : ChangeSpec := { name := "tunnelInner", fn := fun _ => fun
  | [d] => { results := [.lit (.bool false)], args := [d] }
  | _ => none }
def TunnelInnerWrongFalsely : Prop := tunnelInnerRow.holds Tryd.pinned (OpenSpec.ofChange tunnelInnerWrong)

/-- 'intrusionlaw17.TunnelNotices': WHATEVER THE INPUT: true; the input reads as it did. -/
def tunnelNoticesSpec : ChangeSpec := { name := "tunnelNotices", fn := fun _ => fun
  | [d1, d2, d3] => { results := [.lit (.bool true)], args := [d1, d2, d3] }
  | _ => none }
def tunnelNoticesRow : OpenClaim := { program := "ytocobalkikkhlaadoor", sum := "08fc01e466f0c6960df95acf86d904227fa56d026c3d4a4f5a500aa5d89fd907", func := "intrusion/intrusionlaw17.TunnelNotices", spec := "tunnelNotices", unfollowed := true, recurses := true, named := ["intrusion/checksum.shifts"], apart := false, laid := [("intrusion/checksum.shifts", laid_intrusion_checksum_shifts)] }
def TunnelNoticesSaid : Prop := tunnelNoticesRow.holds Tryd.pinned (OpenSpec.ofChange tunnelNoticesSpec)

/-- ITS FALSE NEIGHBOUR: 'it returns false'. Refute it at one input. -/
def tunnelNoticesWrong : ChangeSpec := { name := "tunnelNotices", fn := fun _ => fun
  | [d1, d2, d3] => { results := [.lit (.bool false)], args := [d1, d2, d3] }
  | _ => none }
def TunnelNoticesWrongFalsely : Prop := tunnelNoticesRow.holds Tryd.pinned (OpenSpec.ofChange tunnelNoticesWrong)

/-- 'intrusionlaw17.TunnelFrames': WHATEVER THE INPUT: true; the input reads as it did. -/
def tunnelFramesSpec : ChangeSpec := { name := "tunnelFrames", fn := fun _ => fun
  | [d] => { results := [.lit (.bool true)], args := [d] }
  | _ => none }
def tunnelFramesRow : OpenClaim := { program := "ytocobalkikkhlaadoor", sum := "08fc01e466f0c6960df95acf86d904227fa56d026c3d4a4f5a500aa5d89fd907", func := "intrusion/intrusionlaw17.TunnelFrames", spec := "tunnelFrames", unfollowed := true, recurses := true, named := ["intrusion/checksum.shifts", "intrusion/ethernet.tags"], apart := false, laid := [("intrusion/checksum.shifts", laid_intrusion_checksum_shifts), ("intrusion/ethernet.tags", laid_intrusion_ethernet_tags)] }
def TunnelFramesSaid : Prop := tunnelFramesRow.holds Tryd.pinned (OpenSpec.ofChange tunnelFramesSpec)

/-- ITS FALSE NEIGHBOUR: 'it returns false'. Refute it at one input. -/
def tunnelFramesWrong : ChangeSpec := { name := "tunnelFrames", fn := fun _ => fun
  | [d] => { results := [.lit (.bool false)], args := [d] }
  | _ => none }
def TunnelFramesWrongFalsely : Prop := tunnelFramesRow.holds Tryd.pinned (OpenSpec.ofChange tunnelFramesWrong)

/-- 'intrusionlaw17.TunnelWraps': WHATEVER THE INPUT: true; the input reads as it did. -/
def tunnelWrapsSpec : ChangeSpec := { name := "tunnelWraps", fn := fun _ => fun
  | [d1, d2, d3] => { results := [.lit (.bool true)], args := [d1, d2, d3] }
  | _ => none }
def tunnelWrapsRow : OpenClaim := { program := "ytocobalkikkhlaadoor", sum := "08fc01e466f0c6960df95acf86d904227fa56d026c3d4a4f5a500aa5d89fd907", func := "intrusion/intrusionlaw17.TunnelWraps", spec := "tunnelWraps", unfollowed := true, recurses := true, named := ["intrusion/checksum.shifts"], apart := false, laid := [("intrusion/checksum.shifts", laid_intrusion_checksum_shifts)] }
def TunnelWrapsSaid : Prop := tunnelWrapsRow.holds Tryd.pinned (OpenSpec.ofChange tunnelWrapsSpec)

/-- ITS FALSE NEIGHBOUR: 'it returns false'. Refute it at one input. -/
def tunnelWrapsWrong : ChangeSpec := { name := "tunnelWraps", fn := fun _ => fun
  | [d1, d2, d3] => { results := [.lit (.bool false)], args := [d1, d2, d3] }
  | _ => none }
def TunnelWrapsWrongFalsely : Prop := tunnelWrapsRow.holds Tryd.pinned (OpenSpec.ofChange tunnelWrapsWrong)

/-- 'intrusionlaw17.TunnelRoundTrip': WHATEVER THE INPUT: true; the input reads as it did. -/
def tunnelRoundTripSpec : ChangeSpec := { name := "tunnelRoundTrip", fn := fun _ => fun
  | [d1, d2, d3] => { results := [.lit (.bool true)], args := [d1, d2, d3] }
  | _ => none }
def tunnelRoundTripRow : OpenClaim := { program := "ytocobalkikkhlaadoor", sum := "08fc01e466f0c6960df95acf86d904227fa56d026c3d4a4f5a500aa5d89fd907", func := "intrusion/intrusionlaw17.TunnelRoundTrip", spec := "tunnelRoundTrip", unfollowed := true, recurses := true, named := ["intrusion/checksum.shifts"], apart := false, laid := [("intrusion/checksum.shifts", laid_intrusion_checksum_shifts)] }
def TunnelRoundTripSaid : Prop := tunnelRoundTripRow.holds Tryd.pinned (OpenSpec.ofChange tunnelRoundTripSpec)

/-- ITS FALSE NEIGHBOUR: 'it returns false'. Refute it at one input. -/
def tunnelRoundTripWrong : ChangeSpec := { name := "tunnelRoundTrip", fn := fun _ => fun
  | [d1, d2, d3] => { results := [.lit (.bool false)], args := [d1, d2, d3] }
  | _ => none }
def TunnelRoundTripWrongFalsely : Prop := tunnelRoundTripRow.holds Tryd.pinned (OpenSpec.ofChange tunnelRoundTripWrong)

/- THE SECOND FORM. 'bulk': how many values and letters a reading holds, each counted each time it is reached (what is shared counts as often as it is met; a slice's spare places count too). A statement '..UptoSaid' is the law's where the arguments, and the package variables that the reading takes, are together of bulk at most 1048576: NARROWER than '..Said'. Prove '..Said' where nothing that the law and all that it calls make is longer than what came in: it says more and counts as full. Else prove '..UptoSaid'. A law counts once. -/
mutual
def uptoBulk {H : Type} : DataW H → Nat
  | .lit (.string bytes) => bytes.length + 1
  | .lit _ => 1
  | .nil => 1
  | .ptr d => uptoBulk d + 1
  | .slice elems spare => uptoBulkAll elems + uptoBulkAll spare + 1
  | .agg parts => uptoBulkAll parts + 1
  | .iface _ d => uptoBulk d + 1
  | .map entries => uptoBulkEntries entries + 1
  | .held _ => 1
def uptoBulkAll {H : Type} : List (DataW H) → Nat
  | [] => 0
  | d :: r => uptoBulk d + uptoBulkAll r
def uptoBulkEntries {H : Type} : List (Lit × DataW H) → Nat
  | [] => 0
  | x :: r => uptoBulkEntry x + uptoBulkEntries r
def uptoBulkEntry {H : Type} : Lit × DataW H → Nat
  | (.string bytes, d) => bytes.length + uptoBulk d + 1
  | (_, d) => uptoBulk d + 1
 end
def uptoSmall : (H : Type) → List (DataW H) → Bool := fun _ ds => decide (uptoBulkAll ds ≤ 1048576)
def OpenSpec.upto (s : _root_.Go.ChangeSpec) : _root_.Go.OpenSpec := { _root_.Go.OpenSpec.ofChange s with cond := some uptoSmall }

/-- 'intrusionlaw17.TunnelGre', WHERE WHAT IT READS IS OF BULK AT MOST 1048576: true; the input reads as it did. -/
def tunnelGreUptoRow : OpenClaim := { program := "ytocobalkikkhlaadoor", sum := "08fc01e466f0c6960df95acf86d904227fa56d026c3d4a4f5a500aa5d89fd907", func := "intrusion/intrusionlaw17.TunnelGre", spec := "tunnelGre", inPlace := ["internal/abi.NoEscape"], unfollowed := true, recurses := true, named := ["intrusion/checksum.shifts"], apart := false, laid := [("intrusion/checksum.shifts", laid_intrusion_checksum_shifts)], narrowed := true }
def TunnelGreUptoSaid : Prop := tunnelGreUptoRow.holds Tryd.pinned (OpenSpec.upto tunnelGreSpec)

/-- 'intrusionlaw17.TunnelNests', WHERE WHAT IT READS IS OF BULK AT MOST 1048576: true; the input reads as it did. -/
def tunnelNestsUptoRow : OpenClaim := { program := "ytocobalkikkhlaadoor", sum := "08fc01e466f0c6960df95acf86d904227fa56d026c3d4a4f5a500aa5d89fd907", func := "intrusion/intrusionlaw17.TunnelNests", spec := "tunnelNests", inPlace := ["internal/abi.NoEscape"], unfollowed := true, recurses := true, named := ["intrusion/checksum.shifts"], apart := false, laid := [("intrusion/checksum.shifts", laid_intrusion_checksum_shifts)], narrowed := true }
def TunnelNestsUptoSaid : Prop := tunnelNestsUptoRow.holds Tryd.pinned (OpenSpec.upto tunnelNestsSpec)

/-- 'intrusionlaw17.TunnelInner', WHERE WHAT IT READS IS OF BULK AT MOST 1048576: true; the input reads as it did. -/
def tunnelInnerUptoRow : OpenClaim := { program := "ytocobalkikkhlaadoor", sum := "08fc01e466f0c6960df95acf86d904227fa56d026c3d4a4f5a500aa5d89fd907", func := "intrusion/intrusionlaw17.TunnelInner", spec := "tunnelInner", unfollowed := true, recurses := true, named := ["intrusion/checksum.shifts"], apart := false, laid := [("intrusion/checksum.shifts", laid_intrusion_checksum_shifts)], narrowed := true }
def TunnelInnerUptoSaid : Prop := tunnelInnerUptoRow.holds Tryd.pinned (OpenSpec.upto tunnelInnerSpec)

/-- 'intrusionlaw17.TunnelNotices', WHERE WHAT IT READS IS OF BULK AT MOST 1048576: true; the input reads as it did. -/
def tunnelNoticesUptoRow : OpenClaim := { program := "ytocobalkikkhlaadoor", sum := "08fc01e466f0c6960df95acf86d904227fa56d026c3d4a4f5a500aa5d89fd907", func := "intrusion/intrusionlaw17.TunnelNotices", spec := "tunnelNotices", unfollowed := true, recurses := true, named := ["intrusion/checksum.shifts"], apart := false, laid := [("intrusion/checksum.shifts", laid_intrusion_checksum_shifts)], narrowed := true }
def TunnelNoticesUptoSaid : Prop := tunnelNoticesUptoRow.holds Tryd.pinned (OpenSpec.upto tunnelNoticesSpec)

/-- 'intrusionlaw17.TunnelFrames', WHERE WHAT IT READS IS OF BULK AT MOST 1048576: true; the input reads as it did. -/
def tunnelFramesUptoRow : OpenClaim := { program := "ytocobalkikkhlaadoor", sum := "08fc01e466f0c6960df95acf86d904227fa56d026c3d4a4f5a500aa5d89fd907", func := "intrusion/intrusionlaw17.TunnelFrames", spec := "tunnelFrames", unfollowed := true, recurses := true, named := ["intrusion/checksum.shifts", "intrusion/ethernet.tags"], apart := false, laid := [("intrusion/checksum.shifts", laid_intrusion_checksum_shifts), ("intrusion/ethernet.tags", laid_intrusion_ethernet_tags)], narrowed := true }
def TunnelFramesUptoSaid : Prop := tunnelFramesUptoRow.holds Tryd.pinned (OpenSpec.upto tunnelFramesSpec)

/-- 'intrusionlaw17.TunnelWraps', WHERE WHAT IT READS IS OF BULK AT MOST 1048576: true; the input reads as it did. -/
def tunnelWrapsUptoRow : OpenClaim := { program := "ytocobalkikkhlaadoor", sum := "08fc01e466f0c6960df95acf86d904227fa56d026c3d4a4f5a500aa5d89fd907", func := "intrusion/intrusionlaw17.TunnelWraps", spec := "tunnelWraps", unfollowed := true, recurses := true, named := ["intrusion/checksum.shifts"], apart := false, laid := [("intrusion/checksum.shifts", laid_intrusion_checksum_shifts)], narrowed := true }
def TunnelWrapsUptoSaid : Prop := tunnelWrapsUptoRow.holds Tryd.pinned (OpenSpec.upto tunnelWrapsSpec)

/-- 'intrusionlaw17.TunnelRoundTrip', WHERE WHAT IT READS IS OF BULK AT MOST 1048576: true; the input reads as it did. -/
def tunnelRoundTripUptoRow : OpenClaim := { program := "ytocobalkikkhlaadoor", sum := "08fc01e466f0c6960df95acf86d904227fa56d026c3d4a4f5a500aa5d89fd907", func := "intrusion/intrusionlaw17.TunnelRoundTrip", spec := "tunnelRoundTrip", unfollowed := true, recurses := true, named := ["intrusion/checksum.shifts"], apart := false, laid := [("intrusion/checksum.shifts", laid_intrusion_checksum_shifts)], narrowed := true }
def TunnelRoundTripUptoSaid : Prop := tunnelRoundTripUptoRow.holds Tryd.pinned (OpenSpec.upto tunnelRoundTripSpec)

end Rows
end Go.Proofs.YtocobalkikkhlaaDoor
