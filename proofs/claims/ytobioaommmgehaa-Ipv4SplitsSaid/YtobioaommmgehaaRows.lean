/-
  No cell of these rows narrows 'for every input' (looked for: loops, veiled, ifaces, maps, wideKeys, modest, calm, conditions, laid).
  DERIVED. THE GIVEN ROWS OF THIS SEAT. 7 by the template 'for every input the law returns true; each argument reads behind the call as it read before'; 0 by the template 'total and deterministic' (their statements: YtobioaommmgehaaTotals.lean).
  GIVEN WITH THE SEED: the statements are not yours to turn. If you find one false, say at which input.
  Laid BY PROGRAM, IN A SANDBOX (cutbox-rows.mjs): the forced cells as the released guide's own fill.sh prints them over the translation 093df28ec63df442… (all of the seat's roots in one cut). By AI agents, Wed Nov 11 2026. No macro, syntax, notation, axiom, sorry.
-/
import Derived.Test.YtobioaommmgehaaChecked
import GoSem.Claim
import GoSem.ClaimJoined
import GoSem.ClaimMapViews
import Derived.JoinedTies
import Derived.KernelRfl
namespace Go.Proofs.Ytobioaommmgehaa
/- THE CELL 'sum', in the pinned program and in every row, IS THE sha256 OF THE DUMP (.gsa) THAT YtobioaommmgehaaProg.lean LOADS. Nothing in Lean hashes anything: it is a label: what it is worth is what the hold of that sum in a sandbox is worth. -/
noncomputable def Try.pinned : Pinned := { name := "ytobioaommmgehaa", sum := "093df28ec63df442468a27b435164c47e5816478ec8d0e0decd53d16f619a81f", checked := Try.checked }
namespace Rows
def none {H : Type} : Left H := { results := [], args := [] }

/-- 'intrusionlaw11.Ipv4Decodes': WHATEVER THE INPUT: true; the input reads as it did. -/
def ipv4DecodesSpec : ChangeSpec := { name := "ipv4Decodes", fn := fun _ => fun
  | [d] => { results := [.lit (.bool true)], args := [d] }
  | _ => none }
def ipv4DecodesRow : OpenClaim := { program := "ytobioaommmgehaa", sum := "093df28ec63df442468a27b435164c47e5816478ec8d0e0decd53d16f619a81f", func := "intrusion/intrusionlaw11.Ipv4Decodes", spec := "ipv4Decodes", inPlace := ["internal/abi.NoEscape"], unfollowed := true, recurses := true, apart := false }
def Ipv4DecodesSaid : Prop := ipv4DecodesRow.holds Try.pinned (OpenSpec.ofChange ipv4DecodesSpec)

/-- ITS FALSE NEIGHBOUR: 'it returns false'. Refute it at one input. -/
def ipv4DecodesWrong : ChangeSpec := { name := "ipv4Decodes", fn := fun _ => fun
  | [d] => { results := [.lit (.bool false)], args := [d] }
  | _ => none }
def Ipv4DecodesWrongFalsely : Prop := ipv4DecodesRow.holds Try.pinned (OpenSpec.ofChange ipv4DecodesWrong)

/-- 'intrusionlaw11.Ipv4Encodes': WHATEVER THE INPUT: true; the input reads as it did. -/
def ipv4EncodesSpec : ChangeSpec := { name := "ipv4Encodes", fn := fun _ => fun
  | [d] => { results := [.lit (.bool true)], args := [d] }
  | _ => none }
def ipv4EncodesRow : OpenClaim := { program := "ytobioaommmgehaa", sum := "093df28ec63df442468a27b435164c47e5816478ec8d0e0decd53d16f619a81f", func := "intrusion/intrusionlaw11.Ipv4Encodes", spec := "ipv4Encodes", inPlace := ["internal/abi.NoEscape"], unfollowed := true, recurses := true, apart := false }
def Ipv4EncodesSaid : Prop := ipv4EncodesRow.holds Try.pinned (OpenSpec.ofChange ipv4EncodesSpec)

/-- ITS FALSE NEIGHBOUR: 'it returns false'. Refute it at one input. -/
def ipv4EncodesWrong : ChangeSpec := { name := "ipv4Encodes", fn := fun _ => fun
  | [d] => { results := [.lit (.bool false)], args := [d] }
  | _ => none }
def Ipv4EncodesWrongFalsely : Prop := ipv4EncodesRow.holds Try.pinned (OpenSpec.ofChange ipv4EncodesWrong)

/-- 'intrusionlaw11.Ipv4Splits': WHATEVER THE INPUT: true; the input reads as it did. -/
def ipv4SplitsSpec : ChangeSpec := { name := "ipv4Splits", fn := fun _ => fun
  | [d1, d2] => { results := [.lit (.bool true)], args := [d1, d2] }
  | _ => none }
def ipv4SplitsRow : OpenClaim := { program := "ytobioaommmgehaa", sum := "093df28ec63df442468a27b435164c47e5816478ec8d0e0decd53d16f619a81f", func := "intrusion/intrusionlaw11.Ipv4Splits", spec := "ipv4Splits", inPlace := ["internal/abi.NoEscape"], unfollowed := true, recurses := true, apart := false }
def Ipv4SplitsSaid : Prop := ipv4SplitsRow.holds Try.pinned (OpenSpec.ofChange ipv4SplitsSpec)

/-- ITS FALSE NEIGHBOUR: 'it returns false'. Refute it at one input. -/
def ipv4SplitsWrong : ChangeSpec := { name := "ipv4Splits", fn := fun _ => fun
  | [d1, d2] => { results := [.lit (.bool false)], args := [d1, d2] }
  | _ => none }
def Ipv4SplitsWrongFalsely : Prop := ipv4SplitsRow.holds Try.pinned (OpenSpec.ofChange ipv4SplitsWrong)

/-- 'intrusionlaw11.Ipv4RoundTrip': WHATEVER THE INPUT: true; the input reads as it did. -/
def ipv4RoundTripSpec : ChangeSpec := { name := "ipv4RoundTrip", fn := fun _ => fun
  | [d1, d2] => { results := [.lit (.bool true)], args := [d1, d2] }
  | _ => none }
def ipv4RoundTripRow : OpenClaim := { program := "ytobioaommmgehaa", sum := "093df28ec63df442468a27b435164c47e5816478ec8d0e0decd53d16f619a81f", func := "intrusion/intrusionlaw11.Ipv4RoundTrip", spec := "ipv4RoundTrip", inPlace := ["internal/abi.NoEscape"], unfollowed := true, recurses := true, apart := false }
def Ipv4RoundTripSaid : Prop := ipv4RoundTripRow.holds Try.pinned (OpenSpec.ofChange ipv4RoundTripSpec)

/-- ITS FALSE NEIGHBOUR: 'it returns false'. Refute it at one input. -/
def ipv4RoundTripWrong : ChangeSpec := { name := "ipv4RoundTrip", fn := fun _ => fun
  | [d1, d2] => { results := [.lit (.bool false)], args := [d1, d2] }
  | _ => none }
def Ipv4RoundTripWrongFalsely : Prop := ipv4RoundTripRow.holds Try.pinned (OpenSpec.ofChange ipv4RoundTripWrong)

/-- 'intrusionlaw11.Ipv4Accepts': WHATEVER THE INPUT: true; the input reads as it did. -/
def ipv4AcceptsSpec : ChangeSpec := { name := "ipv4Accepts", fn := fun _ => fun
  | [d] => { results := [.lit (.bool true)], args := [d] }
  | _ => none }
def ipv4AcceptsRow : OpenClaim := { program := "ytobioaommmgehaa", sum := "093df28ec63df442468a27b435164c47e5816478ec8d0e0decd53d16f619a81f", func := "intrusion/intrusionlaw11.Ipv4Accepts", spec := "ipv4Accepts", inPlace := ["internal/abi.NoEscape"], unfollowed := true, recurses := true, apart := false }
def Ipv4AcceptsSaid : Prop := ipv4AcceptsRow.holds Try.pinned (OpenSpec.ofChange ipv4AcceptsSpec)

/-- ITS FALSE NEIGHBOUR: 'it returns false'. Refute it at one input. -/
def ipv4AcceptsWrong : ChangeSpec := { name := "ipv4Accepts", fn := fun _ => fun
  | [d] => { results := [.lit (.bool false)], args := [d] }
  | _ => none }
def Ipv4AcceptsWrongFalsely : Prop := ipv4AcceptsRow.holds Try.pinned (OpenSpec.ofChange ipv4AcceptsWrong)

/-- 'intrusionlaw11.Ipv4Notices': WHATEVER THE INPUT: true; the input reads as it did. -/
def ipv4NoticesSpec : ChangeSpec := { name := "ipv4Notices", fn := fun _ => fun
  | [d1, d2, d3] => { results := [.lit (.bool true)], args := [d1, d2, d3] }
  | _ => none }
def ipv4NoticesRow : OpenClaim := { program := "ytobioaommmgehaa", sum := "093df28ec63df442468a27b435164c47e5816478ec8d0e0decd53d16f619a81f", func := "intrusion/intrusionlaw11.Ipv4Notices", spec := "ipv4Notices", inPlace := ["internal/abi.NoEscape"], unfollowed := true, recurses := true, apart := false }
def Ipv4NoticesSaid : Prop := ipv4NoticesRow.holds Try.pinned (OpenSpec.ofChange ipv4NoticesSpec)

/-- ITS FALSE NEIGHBOUR: 'it returns false'. Refute it at one input. -/
def ipv4NoticesWrong : ChangeSpec := { name := "ipv4Notices", fn := fun _ => fun
  | [d1, d2, d3] => { results := [.lit (.bool false)], args := [d1, d2, d3] }
  | _ => none }
def Ipv4NoticesWrongFalsely : Prop := ipv4NoticesRow.holds Try.pinned (OpenSpec.ofChange ipv4NoticesWrong)

/-- 'intrusionlaw11.Ipv4Parts': WHATEVER THE INPUT: true; the input reads as it did. -/
def ipv4PartsSpec : ChangeSpec := { name := "ipv4Parts", fn := fun _ => fun
  | [d1, d2] => { results := [.lit (.bool true)], args := [d1, d2] }
  | _ => none }
def ipv4PartsRow : OpenClaim := { program := "ytobioaommmgehaa", sum := "093df28ec63df442468a27b435164c47e5816478ec8d0e0decd53d16f619a81f", func := "intrusion/intrusionlaw11.Ipv4Parts", spec := "ipv4Parts", inPlace := ["internal/abi.NoEscape"], unfollowed := true, recurses := true, apart := false }
def Ipv4PartsSaid : Prop := ipv4PartsRow.holds Try.pinned (OpenSpec.ofChange ipv4PartsSpec)

/-- ITS FALSE NEIGHBOUR: 'it returns false'. Refute it at one input. -/
def ipv4PartsWrong : ChangeSpec := { name := "ipv4Parts", fn := fun _ => fun
  | [d1, d2] => { results := [.lit (.bool false)], args := [d1, d2] }
  | _ => none }
def Ipv4PartsWrongFalsely : Prop := ipv4PartsRow.holds Try.pinned (OpenSpec.ofChange ipv4PartsWrong)

/- THE SECOND FORM. 'bulk': how many values and letters a reading holds, each counted each time it is reached (what is shared counts as often as it is met; a slice's spare places count too). A statement '..UptoSaid' is the law's where the arguments, and the package variables that the reading takes, are together of bulk at most 1048576: NARROWER than '..Said'. Prove '..Said' where nothing that the law and all that it calls make is longer than what came in: it says more and counts as full. Else prove '..UptoSaid'. A law counts once. -/
mutual
def uptoBulk {H : Type} : DataW H → Nat
  | .lit (.string bytes) => bytes.length + 1
  | .lit _ => 1
  | .nil => 1
  | .ptr d => uptoBulk d + 1
  | .slice elems spare => uptoBulkAll elems + uptoBulkAll spare + 1
  | .agg parts => uptoBulkAll parts + 1
  | .iface _ d => uptoBulk d + 1
  | .map entries => uptoBulkEntries entries + 1
  | .held _ => 1
def uptoBulkAll {H : Type} : List (DataW H) → Nat
  | [] => 0
  | d :: r => uptoBulk d + uptoBulkAll r
def uptoBulkEntries {H : Type} : List (Lit × DataW H) → Nat
  | [] => 0
  | x :: r => uptoBulkEntry x + uptoBulkEntries r
def uptoBulkEntry {H : Type} : Lit × DataW H → Nat
  | (.string bytes, d) => bytes.length + uptoBulk d + 1
  | (_, d) => uptoBulk d + 1
 end
def uptoSmall : (H : Type) → List (DataW H) → Bool := fun _ ds => decide (uptoBulkAll ds ≤ 1048576)
def OpenSpec.upto (s : _root_.Go.ChangeSpec) : _root_.Go.OpenSpec := { _root_.Go.OpenSpec.ofChange s with cond := some uptoSmall }

/-- 'intrusionlaw11.Ipv4Decodes', WHERE WHAT IT READS IS OF BULK AT MOST 1048576: true; the input reads as it did. -/
def ipv4DecodesUptoRow : OpenClaim := { program := "ytobioaommmgehaa", sum := "093df28ec63df442468a27b435164c47e5816478ec8d0e0decd53d16f619a81f", func := "intrusion/intrusionlaw11.Ipv4Decodes", spec := "ipv4Decodes", inPlace := ["internal/abi.NoEscape"], unfollowed := true, recurses := true, apart := false, narrowed := true }
def Ipv4DecodesUptoSaid : Prop := ipv4DecodesUptoRow.holds Try.pinned (OpenSpec.upto ipv4DecodesSpec)

/-- 'intrusionlaw11.Ipv4Encodes', WHERE WHAT IT READS IS OF BULK AT MOST 1048576: true; the input reads as it did. -/
def ipv4EncodesUptoRow : OpenClaim := { program := "ytobioaommmgehaa", sum := "093df28ec63df442468a27b435164c47e5816478ec8d0e0decd53d16f619a81f", func := "intrusion/intrusionlaw11.Ipv4Encodes", spec := "ipv4Encodes", inPlace := ["internal/abi.NoEscape"], unfollowed := true, recurses := true, apart := false, narrowed := true }
def Ipv4EncodesUptoSaid : Prop := ipv4EncodesUptoRow.holds Try.pinned (OpenSpec.upto ipv4EncodesSpec)

/-- 'intrusionlaw11.Ipv4Splits', WHERE WHAT IT READS IS OF BULK AT MOST 1048576: true; the input reads as it did. -/
def ipv4SplitsUptoRow : OpenClaim := { program := "ytobioaommmgehaa", sum := "093df28ec63df442468a27b435164c47e5816478ec8d0e0decd53d16f619a81f", func := "intrusion/intrusionlaw11.Ipv4Splits", spec := "ipv4Splits", inPlace := ["internal/abi.NoEscape"], unfollowed := true, recurses := true, apart := false, narrowed := true }
def Ipv4SplitsUptoSaid : Prop := ipv4SplitsUptoRow.holds Try.pinned (OpenSpec.upto ipv4SplitsSpec)

/-- 'intrusionlaw11.Ipv4RoundTrip', WHERE WHAT IT READS IS OF BULK AT MOST 1048576: true; the input reads as it did. -/
def ipv4RoundTripUptoRow : OpenClaim := { program := "ytobioaommmgehaa", sum := "093df28ec63df442468a27b435164c47e5816478ec8d0e0decd53d16f619a81f", func := "intrusion/intrusionlaw11.Ipv4RoundTrip", spec := "ipv4RoundTrip", inPlace := ["internal/abi.NoEscape"], unfollowed := true, recurses := true, apart := false, narrowed := true }
def Ipv4RoundTripUptoSaid : Prop := ipv4RoundTripUptoRow.holds Try.pinned (OpenSpec.upto ipv4RoundTripSpec)

/-- 'intrusionlaw11.Ipv4Accepts', WHERE WHAT IT READS IS OF BULK AT MOST 1048576: true; the input reads as it did. -/
def ipv4AcceptsUptoRow : OpenClaim := { program := "ytobioaommmgehaa", sum := "093df28ec63df442468a27b435164c47e5816478ec8d0e0decd53d16f619a81f", func := "intrusion/intrusionlaw11.Ipv4Accepts", spec := "ipv4Accepts", inPlace := ["internal/abi.NoEscape"], unfollowed := true, recurses := true, apart := false, narrowed := true }
def Ipv4AcceptsUptoSaid : Prop := ipv4AcceptsUptoRow.holds Try.pinned (OpenSpec.upto ipv4AcceptsSpec)

/-- 'intrusionlaw11.Ipv4Notices', WHERE WHAT IT READS IS OF BULK AT MOST 1048576: true; the input reads as it did. -/
def ipv4NoticesUptoRow : OpenClaim := { program := "ytobioaommmgehaa", sum := "093df28ec63df442468a27b435164c47e5816478ec8d0e0decd53d16f619a81f", func := "intrusion/intrusionlaw11.Ipv4Notices", spec := "ipv4Notices", inPlace := ["internal/abi.NoEscape"], unfollowed := true, recurses := true, apart := false, narrowed := true }
def Ipv4NoticesUptoSaid : Prop := ipv4NoticesUptoRow.holds Try.pinned (OpenSpec.upto ipv4NoticesSpec)

/-- 'intrusionlaw11.Ipv4Parts', WHERE WHAT IT READS IS OF BULK AT MOST 1048576: true; the input reads as it did. -/
def ipv4PartsUptoRow : OpenClaim := { program := "ytobioaommmgehaa", sum := "093df28ec63df442468a27b435164c47e5816478ec8d0e0decd53d16f619a81f", func := "intrusion/intrusionlaw11.Ipv4Parts", spec := "ipv4Parts", inPlace := ["internal/abi.NoEscape"], unfollowed := true, recurses := true, apart := false, narrowed := true }
def Ipv4PartsUptoSaid : Prop := ipv4PartsUptoRow.holds Try.pinned (OpenSpec.upto ipv4PartsSpec)

end Rows
end Go.Proofs.Ytobioaommmgehaa
