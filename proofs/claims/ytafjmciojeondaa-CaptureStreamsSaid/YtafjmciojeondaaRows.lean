/-
  No cell of these rows narrows 'for every input' (looked for: loops, veiled, ifaces, maps, wideKeys, modest, calm, conditions, laid).
  DERIVED. THE GIVEN ROWS OF THIS SEAT. 8 by the template 'for every input the law returns true; each argument reads behind the call as it read before'; 0 by the template 'total and deterministic' (their statements: YtafjmciojeondaaTotals.lean).
  GIVEN WITH THE SEED: the statements are not yours to turn. If you find one false, say at which input.
  Laid BY PROGRAM, IN A SANDBOX (cutbox-rows.mjs): the forced cells as the released guide's own fill.sh prints them over the translation 7c0eb46865dd3cc3… (all of the seat's roots in one cut). By AI agents, Wed Nov 11 2026. No macro, syntax, notation, axiom, sorry.
-/
import Derived.Test.YtafjmciojeondaaChecked
import GoSem.Claim
import GoSem.ClaimJoined
import GoSem.ClaimMapViews
import Derived.JoinedTies
import Derived.KernelRfl
namespace Go.Proofs.Ytafjmciojeondaa
/- THE CELL 'sum', in the pinned program and in every row, IS THE sha256 OF THE DUMP (.gsa) THAT YtafjmciojeondaaProg.lean LOADS. Nothing in Lean hashes anything: it is a label: what it is worth is what the hold of that sum in a sandbox is worth. -/
noncomputable def Try.pinned : Pinned := { name := "ytafjmciojeondaa", sum := "7c0eb46865dd3cc3e162d0c42c434cb7dda4c851a137673f9eb9b681eae78a47", checked := Try.checked }
namespace Rows
def none {H : Type} : Left H := { results := [], args := [] }

/-- 'intrusionlaw09.CaptureReads': WHATEVER THE INPUT: true; the input reads as it did. -/
def captureReadsSpec : ChangeSpec := { name := "captureReads", fn := fun _ => fun
  | [d] => { results := [.lit (.bool true)], args := [d] }
  | _ => none }
def captureReadsRow : OpenClaim := { program := "ytafjmciojeondaa", sum := "7c0eb46865dd3cc3e162d0c42c434cb7dda4c851a137673f9eb9b681eae78a47", func := "intrusion/intrusionlaw09.CaptureReads", spec := "captureReads", unfollowed := true, recurses := true, apart := false }
def CaptureReadsSaid : Prop := captureReadsRow.holds Try.pinned (OpenSpec.ofChange captureReadsSpec)

/-- ITS FALSE NEIGHBOUR: 'it returns false'. Refute it at one input. -/
def captureReadsWrong : ChangeSpec := { name := "captureReads", fn := fun _ => fun
  | [d] => { results := [.lit (.bool false)], args := [d] }
  | _ => none }
def CaptureReadsWrongFalsely : Prop := captureReadsRow.holds Try.pinned (OpenSpec.ofChange captureReadsWrong)

/-- 'intrusionlaw09.CaptureWrites': WHATEVER THE INPUT: true; the input reads as it did. -/
def captureWritesSpec : ChangeSpec := { name := "captureWrites", fn := fun _ => fun
  | [d] => { results := [.lit (.bool true)], args := [d] }
  | _ => none }
def captureWritesRow : OpenClaim := { program := "ytafjmciojeondaa", sum := "7c0eb46865dd3cc3e162d0c42c434cb7dda4c851a137673f9eb9b681eae78a47", func := "intrusion/intrusionlaw09.CaptureWrites", spec := "captureWrites", unfollowed := true, recurses := true, apart := false }
def CaptureWritesSaid : Prop := captureWritesRow.holds Try.pinned (OpenSpec.ofChange captureWritesSpec)

/-- ITS FALSE NEIGHBOUR: 'it returns false'. Refute it at one input. -/
def captureWritesWrong : ChangeSpec := { name := "captureWrites", fn := fun _ => fun
  | [d] => { results := [.lit (.bool false)], args := [d] }
  | _ => none }
def CaptureWritesWrongFalsely : Prop := captureWritesRow.holds Try.pinned (OpenSpec.ofChange captureWritesWrong)

/-- 'intrusionlaw09.CaptureMany': WHATEVER THE INPUT: true; the input reads as it did. -/
def captureManySpec : ChangeSpec := { name := "captureMany", fn := fun _ => fun
  | [d1, d2] => { results := [.lit (.bool true)], args := [d1, d2] }
  | _ => none }
def captureManyRow : OpenClaim := { program := "ytafjmciojeondaa", sum := "7c0eb46865dd3cc3e162d0c42c434cb7dda4c851a137673f9eb9b681eae78a47", func := "intrusion/intrusionlaw09.CaptureMany", spec := "captureMany", unfollowed := true, recurses := true, apart := false }
def CaptureManySaid : Prop := captureManyRow.holds Try.pinned (OpenSpec.ofChange captureManySpec)

/-- ITS FALSE NEIGHBOUR: 'it returns false'. Refute it at one input. -/
def captureManyWrong : ChangeSpec := { name := "captureMany", fn := fun _ => fun
  | [d1, d2] => { results := [.lit (.bool false)], args := [d1, d2] }
  | _ => none }
def CaptureManyWrongFalsely : Prop := captureManyRow.holds Try.pinned (OpenSpec.ofChange captureManyWrong)

/-- 'intrusionlaw09.CaptureMerges': WHATEVER THE INPUT: true; the input reads as it did. -/
def captureMergesSpec : ChangeSpec := { name := "captureMerges", fn := fun _ => fun
  | [d1, d2] => { results := [.lit (.bool true)], args := [d1, d2] }
  | _ => none }
def captureMergesRow : OpenClaim := { program := "ytafjmciojeondaa", sum := "7c0eb46865dd3cc3e162d0c42c434cb7dda4c851a137673f9eb9b681eae78a47", func := "intrusion/intrusionlaw09.CaptureMerges", spec := "captureMerges", unfollowed := true, recurses := true, apart := false }
def CaptureMergesSaid : Prop := captureMergesRow.holds Try.pinned (OpenSpec.ofChange captureMergesSpec)

/-- ITS FALSE NEIGHBOUR: 'it returns false'. Refute it at one input. -/
def captureMergesWrong : ChangeSpec := { name := "captureMerges", fn := fun _ => fun
  | [d1, d2] => { results := [.lit (.bool false)], args := [d1, d2] }
  | _ => none }
def CaptureMergesWrongFalsely : Prop := captureMergesRow.holds Try.pinned (OpenSpec.ofChange captureMergesWrong)

/-- 'intrusionlaw09.CaptureFeeds': WHATEVER THE INPUT: true; the input reads as it did. -/
def captureFeedsSpec : ChangeSpec := { name := "captureFeeds", fn := fun _ => fun
  | [d] => { results := [.lit (.bool true)], args := [d] }
  | _ => none }
def captureFeedsRow : OpenClaim := { program := "ytafjmciojeondaa", sum := "7c0eb46865dd3cc3e162d0c42c434cb7dda4c851a137673f9eb9b681eae78a47", func := "intrusion/intrusionlaw09.CaptureFeeds", spec := "captureFeeds", unfollowed := true, recurses := true, apart := false }
def CaptureFeedsSaid : Prop := captureFeedsRow.holds Try.pinned (OpenSpec.ofChange captureFeedsSpec)

/-- ITS FALSE NEIGHBOUR: 'it returns false'. Refute it at one input. -/
def captureFeedsWrong : ChangeSpec := { name := "captureFeeds", fn := fun _ => fun
  | [d] => { results := [.lit (.bool false)], args := [d] }
  | _ => none }
def CaptureFeedsWrongFalsely : Prop := captureFeedsRow.holds Try.pinned (OpenSpec.ofChange captureFeedsWrong)

/-- 'intrusionlaw09.CaptureStreams': WHATEVER THE INPUT: true; the input reads as it did. -/
def captureStreamsSpec : ChangeSpec := { name := "captureStreams", fn := fun _ => fun
  | [d] => { results := [.lit (.bool true)], args := [d] }
  | _ => none }
def captureStreamsRow : OpenClaim := { program := "ytafjmciojeondaa", sum := "7c0eb46865dd3cc3e162d0c42c434cb7dda4c851a137673f9eb9b681eae78a47", func := "intrusion/intrusionlaw09.CaptureStreams", spec := "captureStreams", unfollowed := true, recurses := true, apart := false }
def CaptureStreamsSaid : Prop := captureStreamsRow.holds Try.pinned (OpenSpec.ofChange captureStreamsSpec)

/-- ITS FALSE NEIGHBOUR: 'it returns false'. Refute it at one input. -/
def captureStreamsWrong : ChangeSpec := { name := "captureStreams", fn := fun _ => fun
  | [d] => { results := [.lit (.bool false)], args := [d] }
  | _ => none }
def CaptureStreamsWrongFalsely : Prop := captureStreamsRow.holds Try.pinned (OpenSpec.ofChange captureStreamsWrong)

/-- 'intrusionlaw09.CaptureRoundTrip': WHATEVER THE INPUT: true; the input reads as it did. -/
def captureRoundTripSpec : ChangeSpec := { name := "captureRoundTrip", fn := fun _ => fun
  | [d] => { results := [.lit (.bool true)], args := [d] }
  | _ => none }
def captureRoundTripRow : OpenClaim := { program := "ytafjmciojeondaa", sum := "7c0eb46865dd3cc3e162d0c42c434cb7dda4c851a137673f9eb9b681eae78a47", func := "intrusion/intrusionlaw09.CaptureRoundTrip", spec := "captureRoundTrip", unfollowed := true, recurses := true, apart := false }
def CaptureRoundTripSaid : Prop := captureRoundTripRow.holds Try.pinned (OpenSpec.ofChange captureRoundTripSpec)

/-- ITS FALSE NEIGHBOUR: 'it returns false'. Refute it at one input. -/
def captureRoundTripWrong : ChangeSpec := { name := "captureRoundTrip", fn := fun _ => fun
  | [d] => { results := [.lit (.bool false)], args := [d] }
  | _ => none }
def CaptureRoundTripWrongFalsely : Prop := captureRoundTripRow.holds Try.pinned (OpenSpec.ofChange captureRoundTripWrong)

/-- 'intrusionlaw09.CaptureOrdered': WHATEVER THE INPUT: true; the input reads as it did. -/
def captureOrderedSpec : ChangeSpec := { name := "captureOrdered", fn := fun _ => fun
  | [d1, d2] => { results := [.lit (.bool true)], args := [d1, d2] }
  | _ => none }
def captureOrderedRow : OpenClaim := { program := "ytafjmciojeondaa", sum := "7c0eb46865dd3cc3e162d0c42c434cb7dda4c851a137673f9eb9b681eae78a47", func := "intrusion/intrusionlaw09.CaptureOrdered", spec := "captureOrdered", unfollowed := true, recurses := true, apart := false }
def CaptureOrderedSaid : Prop := captureOrderedRow.holds Try.pinned (OpenSpec.ofChange captureOrderedSpec)

/-- ITS FALSE NEIGHBOUR: 'it returns false'. Refute it at one input. -/
def captureOrderedWrong : ChangeSpec := { name := "captureOrdered", fn := fun _ => fun
  | [d1, d2] => { results := [.lit (.bool false)], args := [d1, d2] }
  | _ => none }
def CaptureOrderedWrongFalsely : Prop := captureOrderedRow.holds Try.pinned (OpenSpec.ofChange captureOrderedWrong)

/- THE SECOND FORM. 'bulk': how many values and letters a reading holds, each counted each time it is reached (what is shared counts as often as it is met; a slice's spare places count too). A statement '..UptoSaid' is the law's where the arguments, and the package variables that the reading takes, are together of bulk at most 1048576: NARROWER than '..Said'. Prove '..Said' where nothing that the law and all that it calls make is longer than what came in: it says more and counts as full. Else prove '..UptoSaid'. A law counts once. -/
mutual
def uptoBulk {H : Type} : DataW H → Nat
  | .lit (.string bytes) => bytes.length + 1
  | .lit _ => 1
  | .nil => 1
  | .ptr d => uptoBulk d + 1
  | .slice elems spare => uptoBulkAll elems + uptoBulkAll spare + 1
  | .agg parts => uptoBulkAll parts + 1
  | .iface _ d => uptoBulk d + 1
  | .map entries => uptoBulkEntries entries + 1
  | .held _ => 1
def uptoBulkAll {H : Type} : List (DataW H) → Nat
  | [] => 0
  | d :: r => uptoBulk d + uptoBulkAll r
def uptoBulkEntries {H : Type} : List (Lit × DataW H) → Nat
  | [] => 0
  | x :: r => uptoBulkEntry x + uptoBulkEntries r
def uptoBulkEntry {H : Type} : Lit × DataW H → Nat
  | (.string bytes, d) => bytes.length + uptoBulk d + 1
  | (_, d) => uptoBulk d + 1
 end
def uptoSmall : (H : Type) → List (DataW H) → Bool := fun _ ds => decide (uptoBulkAll ds ≤ 1048576)
def OpenSpec.upto (s : _root_.Go.ChangeSpec) : _root_.Go.OpenSpec := { _root_.Go.OpenSpec.ofChange s with cond := some uptoSmall }

/-- 'intrusionlaw09.CaptureReads', WHERE WHAT IT READS IS OF BULK AT MOST 1048576: true; the input reads as it did. -/
def captureReadsUptoRow : OpenClaim := { program := "ytafjmciojeondaa", sum := "7c0eb46865dd3cc3e162d0c42c434cb7dda4c851a137673f9eb9b681eae78a47", func := "intrusion/intrusionlaw09.CaptureReads", spec := "captureReads", unfollowed := true, recurses := true, apart := false, narrowed := true }
def CaptureReadsUptoSaid : Prop := captureReadsUptoRow.holds Try.pinned (OpenSpec.upto captureReadsSpec)

/-- 'intrusionlaw09.CaptureWrites', WHERE WHAT IT READS IS OF BULK AT MOST 1048576: true; the input reads as it did. -/
def captureWritesUptoRow : OpenClaim := { program := "ytafjmciojeondaa", sum := "7c0eb46865dd3cc3e162d0c42c434cb7dda4c851a137673f9eb9b681eae78a47", func := "intrusion/intrusionlaw09.CaptureWrites", spec := "captureWrites", unfollowed := true, recurses := true, apart := false, narrowed := true }
def CaptureWritesUptoSaid : Prop := captureWritesUptoRow.holds Try.pinned (OpenSpec.upto captureWritesSpec)

/-- 'intrusionlaw09.CaptureMany', WHERE WHAT IT READS IS OF BULK AT MOST 1048576: true; the input reads as it did. -/
def captureManyUptoRow : OpenClaim := { program := "ytafjmciojeondaa", sum := "7c0eb46865dd3cc3e162d0c42c434cb7dda4c851a137673f9eb9b681eae78a47", func := "intrusion/intrusionlaw09.CaptureMany", spec := "captureMany", unfollowed := true, recurses := true, apart := false, narrowed := true }
def CaptureManyUptoSaid : Prop := captureManyUptoRow.holds Try.pinned (OpenSpec.upto captureManySpec)

/-- 'intrusionlaw09.CaptureMerges', WHERE WHAT IT READS IS OF BULK AT MOST 1048576: true; the input reads as it did. -/
def captureMergesUptoRow : OpenClaim := { program := "ytafjmciojeondaa", sum := "7c0eb46865dd3cc3e162d0c42c434cb7dda4c851a137673f9eb9b681eae78a47", func := "intrusion/intrusionlaw09.CaptureMerges", spec := "captureMerges", unfollowed := true, recurses := true, apart := false, narrowed := true }
def CaptureMergesUptoSaid : Prop := captureMergesUptoRow.holds Try.pinned (OpenSpec.upto captureMergesSpec)

/-- 'intrusionlaw09.CaptureFeeds', WHERE WHAT IT READS IS OF BULK AT MOST 1048576: true; the input reads as it did. -/
def captureFeedsUptoRow : OpenClaim := { program := "ytafjmciojeondaa", sum := "7c0eb46865dd3cc3e162d0c42c434cb7dda4c851a137673f9eb9b681eae78a47", func := "intrusion/intrusionlaw09.CaptureFeeds", spec := "captureFeeds", unfollowed := true, recurses := true, apart := false, narrowed := true }
def CaptureFeedsUptoSaid : Prop := captureFeedsUptoRow.holds Try.pinned (OpenSpec.upto captureFeedsSpec)

/-- 'intrusionlaw09.CaptureStreams', WHERE WHAT IT READS IS OF BULK AT MOST 1048576: true; the input reads as it did. -/
def captureStreamsUptoRow : OpenClaim := { program := "ytafjmciojeondaa", sum := "7c0eb46865dd3cc3e162d0c42c434cb7dda4c851a137673f9eb9b681eae78a47", func := "intrusion/intrusionlaw09.CaptureStreams", spec := "captureStreams", unfollowed := true, recurses := true, apart := false, narrowed := true }
def CaptureStreamsUptoSaid : Prop := captureStreamsUptoRow.holds Try.pinned (OpenSpec.upto captureStreamsSpec)

/-- 'intrusionlaw09.CaptureRoundTrip', WHERE WHAT IT READS IS OF BULK AT MOST 1048576: true; the input reads as it did. -/
def captureRoundTripUptoRow : OpenClaim := { program := "ytafjmciojeondaa", sum := "7c0eb46865dd3cc3e162d0c42c434cb7dda4c851a137673f9eb9b681eae78a47", func := "intrusion/intrusionlaw09.CaptureRoundTrip", spec := "captureRoundTrip", unfollowed := true, recurses := true, apart := false, narrowed := true }
def CaptureRoundTripUptoSaid : Prop := captureRoundTripUptoRow.holds Try.pinned (OpenSpec.upto captureRoundTripSpec)

/-- 'intrusionlaw09.CaptureOrdered', WHERE WHAT IT READS IS OF BULK AT MOST 1048576: true; the input reads as it did. -/
def captureOrderedUptoRow : OpenClaim := { program := "ytafjmciojeondaa", sum := "7c0eb46865dd3cc3e162d0c42c434cb7dda4c851a137673f9eb9b681eae78a47", func := "intrusion/intrusionlaw09.CaptureOrdered", spec := "captureOrdered", unfollowed := true, recurses := true, apart := false, narrowed := true }
def CaptureOrderedUptoSaid : Prop := captureOrderedUptoRow.holds Try.pinned (OpenSpec.upto captureOrderedSpec)

end Rows
end Go.Proofs.Ytafjmciojeondaa
