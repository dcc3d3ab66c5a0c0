/-
  NARROWER THAN 'FOR EVERY INPUT', by the rows' own cells (each row's printed sentence says how): ChecksumSums: laid · ChecksumUpdates: laid · ChecksumPseudo: laid · ChecksumCrcs: laid · ChecksumContinues: laid · ChecksumZero: laid · ChecksumDetects: laid.
  DERIVED. THE GIVEN ROWS OF THIS SEAT. 7 by the template 'for every input the law returns true; each argument reads behind the call as it read before'; 0 by the template 'total and deterministic' (their statements: YtjlhicpkceplhaaDoorTotals.lean).
  GIVEN WITH THE SEED: the statements are not yours to turn. If you find one false, say at which input.
  Laid BY PROGRAM, IN A SANDBOX (cutbox-rows.mjs): the forced cells as the released guide's own fill.sh prints them over the translation b8e640c18f459644… (all of the seat's roots in one cut). By AI agents, Wed Nov 11 2026. No macro, syntax, notation, axiom, sorry.
-/
import Derived.Test.YtjlhicpkceplhaaDoorChecked
import GoSem.Claim
import GoSem.ClaimJoined
import GoSem.ClaimMapViews
import Derived.JoinedTies
import Derived.KernelRfl
namespace Go.Proofs.YtjlhicpkceplhaaDoor
/- THE CELL 'sum', in the pinned program and in every row, IS THE sha256 OF THE DUMP (.gsa) THAT YtjlhicpkceplhaaDoorProg.lean LOADS. Nothing in Lean hashes anything: it is a label: what it is worth is what the hold of that sum in a sandbox is worth. -/
noncomputable def Tryd.pinned : Pinned := { name := "ytjlhicpkceplhaadoor", sum := "b8e640c18f45964467128e1524760ee735313cc0c90940a1ab8daf5c7c57c017", checked := Tryd.checked }
namespace Rows
def none {H : Type} : Left H := { results := [], args := [] }

/- WHAT THE LISTED PACKAGE-LEVEL VARIABLES READ AS WHEN THE CALL BEGINS. Each datum BY PROGRAM (the guide's laid-datum.mjs) off the statement by which the dump's own 'gosem.cut.vars' lays the variable. In a bare row this is a premise. The card (YtjlhicpkceplhaaDoorCards.lean) ties it to the program's text. -/
def laid_intrusion_checksum_shifts {H : Type} : DataW H := .agg [.lit (.int .u64 56), .lit (.int .u64 48), .lit (.int .u64 40), .lit (.int .u64 32), .lit (.int .u64 24), .lit (.int .u64 16), .lit (.int .u64 8), .lit (.int .u64 0)]

/-- 'intrusionlaw02.ChecksumSums': WHATEVER THE INPUT: true; the input reads as it did. -/
def checksumSumsSpec : ChangeSpec := { name := "checksumSums", fn := fun _ => fun
  | [d] => { results := [.lit (.bool true)], args := [d] }
  | _ => none }
def checksumSumsRow : OpenClaim := { program := "ytjlhicpkceplhaadoor", sum := "b8e640c18f45964467128e1524760ee735313cc0c90940a1ab8daf5c7c57c017", func := "intrusion/intrusionlaw02.ChecksumSums", spec := "checksumSums", named := ["intrusion/checksum.shifts"], apart := false, laid := [("intrusion/checksum.shifts", laid_intrusion_checksum_shifts)] }
def ChecksumSumsSaid : Prop := checksumSumsRow.holds Tryd.pinned (OpenSpec.ofChange checksumSumsSpec)

/-- ITS FALSE NEIGHBOUR: 'it returns false'. Refute it at one input. -/
def checksumSumsWrong : ChangeSpec := { name := "checksumSums", fn := fun _ => fun
  | [d] => { results := [.lit (.bool false)], args := [d] }
  | _ => none }
def ChecksumSumsWrongFalsely : Prop := checksumSumsRow.holds Tryd.pinned (OpenSpec.ofChange checksumSumsWrong)

/-- 'intrusionlaw02.ChecksumUpdates': WHATEVER THE INPUT: true; the input reads as it did. -/
def checksumUpdatesSpec : ChangeSpec := { name := "checksumUpdates", fn := fun _ => fun
  | [d1, d2, d3] => { results := [.lit (.bool true)], args := [d1, d2, d3] }
  | _ => none }
def checksumUpdatesRow : OpenClaim := { program := "ytjlhicpkceplhaadoor", sum := "b8e640c18f45964467128e1524760ee735313cc0c90940a1ab8daf5c7c57c017", func := "intrusion/intrusionlaw02.ChecksumUpdates", spec := "checksumUpdates", named := ["intrusion/checksum.shifts"], apart := false, laid := [("intrusion/checksum.shifts", laid_intrusion_checksum_shifts)] }
def ChecksumUpdatesSaid : Prop := checksumUpdatesRow.holds Tryd.pinned (OpenSpec.ofChange checksumUpdatesSpec)

/-- ITS FALSE NEIGHBOUR: 'it returns false'. Refute it at one input. -/
def checksumUpdatesWrong : ChangeSpec := { name := "checksumUpdates", fn := fun _ => fun
  | [d1, d2, d3] => { results := [.lit (.bool false)], args := [d1, d2, d3] }
  | _ => none }
def ChecksumUpdatesWrongFalsely : Prop := checksumUpdatesRow.holds Tryd.pinned (OpenSpec.ofChange checksumUpdatesWrong)

/-- 'intrusionlaw02.ChecksumPseudo': WHATEVER THE INPUT: true; the input reads as it did. -/
def checksumPseudoSpec : ChangeSpec := { name := "checksumPseudo", fn := fun _ => fun
  | [d1, d2, d3, d4] => { results := [.lit (.bool true)], args := [d1, d2, d3, d4] }
  | _ => none }
def checksumPseudoRow : OpenClaim := { program := "ytjlhicpkceplhaadoor", sum := "b8e640c18f45964467128e1524760ee735313cc0c90940a1ab8daf5c7c57c017", func := "intrusion/intrusionlaw02.ChecksumPseudo", spec := "checksumPseudo", named := ["intrusion/checksum.shifts"], apart := false, laid := [("intrusion/checksum.shifts", laid_intrusion_checksum_shifts)] }
def ChecksumPseudoSaid : Prop := checksumPseudoRow.holds Tryd.pinned (OpenSpec.ofChange checksumPseudoSpec)

/-- ITS FALSE NEIGHBOUR: 'it returns false'. Refute it at one input. -/
def checksumPseudoWrong : ChangeSpec := { name := "checksumPseudo", fn := fun _ => fun
  | [d1, d2, d3, d4] => { results := [.lit (.bool false)], args := [d1, d2, d3, d4] }
  | _ => none }
def ChecksumPseudoWrongFalsely : Prop := checksumPseudoRow.holds Tryd.pinned (OpenSpec.ofChange checksumPseudoWrong)

/-- 'intrusionlaw02.ChecksumCrcs': WHATEVER THE INPUT: true; the input reads as it did. -/
def checksumCrcsSpec : ChangeSpec := { name := "checksumCrcs", fn := fun _ => fun
  | [d1, d2] => { results := [.lit (.bool true)], args := [d1, d2] }
  | _ => none }
def checksumCrcsRow : OpenClaim := { program := "ytjlhicpkceplhaadoor", sum := "b8e640c18f45964467128e1524760ee735313cc0c90940a1ab8daf5c7c57c017", func := "intrusion/intrusionlaw02.ChecksumCrcs", spec := "checksumCrcs", named := ["intrusion/checksum.shifts"], apart := false, laid := [("intrusion/checksum.shifts", laid_intrusion_checksum_shifts)] }
def ChecksumCrcsSaid : Prop := checksumCrcsRow.holds Tryd.pinned (OpenSpec.ofChange checksumCrcsSpec)

/-- ITS FALSE NEIGHBOUR: 'it returns false'. Refute it at one input. -/
def checksumCrcsWrong : ChangeSpec := { name := "checksumCrcs", fn := fun _ => fun
  | [d1, d2] => { results := [.lit (.bool false)], args := [d1, d2] }
  | _ => none }
def ChecksumCrcsWrongFalsely : Prop := checksumCrcsRow.holds Tryd.pinned (OpenSpec.ofChange checksumCrcsWrong)

/-- 'intrusionlaw02.ChecksumContinues': WHATEVER THE INPUT: true; the input reads as it did. -/
def checksumContinuesSpec : ChangeSpec := { name := "checksumContinues", fn := fun _ => fun
  | [d1, d2] => { results := [.lit (.bool true)], args := [d1, d2] }
  | _ => none }
def checksumContinuesRow : OpenClaim := { program := "ytjlhicpkceplhaadoor", sum := "b8e640c18f45964467128e1524760ee735313cc0c90940a1ab8daf5c7c57c017", func := "intrusion/intrusionlaw02.ChecksumContinues", spec := "checksumContinues", named := ["intrusion/checksum.shifts"], apart := false, laid := [("intrusion/checksum.shifts", laid_intrusion_checksum_shifts)] }
def ChecksumContinuesSaid : Prop := checksumContinuesRow.holds Tryd.pinned (OpenSpec.ofChange checksumContinuesSpec)

/-- ITS FALSE NEIGHBOUR: 'it returns false'. Refute it at one input. -/
def checksumContinuesWrong : ChangeSpec := { name := "checksumContinues", fn := fun _ => fun
  | [d1, d2] => { results := [.lit (.bool false)], args := [d1, d2] }
  | _ => none }
def ChecksumContinuesWrongFalsely : Prop := checksumContinuesRow.holds Tryd.pinned (OpenSpec.ofChange checksumContinuesWrong)

/-- 'intrusionlaw02.ChecksumZero': WHATEVER THE INPUT: true; the input reads as it did. -/
def checksumZeroSpec : ChangeSpec := { name := "checksumZero", fn := fun _ => fun
  | [d] => { results := [.lit (.bool true)], args := [d] }
  | _ => none }
def checksumZeroRow : OpenClaim := { program := "ytjlhicpkceplhaadoor", sum := "b8e640c18f45964467128e1524760ee735313cc0c90940a1ab8daf5c7c57c017", func := "intrusion/intrusionlaw02.ChecksumZero", spec := "checksumZero", named := ["intrusion/checksum.shifts"], apart := false, laid := [("intrusion/checksum.shifts", laid_intrusion_checksum_shifts)] }
def ChecksumZeroSaid : Prop := checksumZeroRow.holds Tryd.pinned (OpenSpec.ofChange checksumZeroSpec)

/-- ITS FALSE NEIGHBOUR: 'it returns false'. Refute it at one input. -/
def checksumZeroWrong : ChangeSpec := { name := "checksumZero", fn := fun _ => fun
  | [d] => { results := [.lit (.bool false)], args := [d] }
  | _ => none }
def ChecksumZeroWrongFalsely : Prop := checksumZeroRow.holds Tryd.pinned (OpenSpec.ofChange checksumZeroWrong)

/-- 'intrusionlaw02.ChecksumDetects': WHATEVER THE INPUT: true; the input reads as it did. -/
def checksumDetectsSpec : ChangeSpec := { name := "checksumDetects", fn := fun _ => fun
  | [d1, d2, d3] => { results := [.lit (.bool true)], args := [d1, d2, d3] }
  | _ => none }
def checksumDetectsRow : OpenClaim := { program := "ytjlhicpkceplhaadoor", sum := "b8e640c18f45964467128e1524760ee735313cc0c90940a1ab8daf5c7c57c017", func := "intrusion/intrusionlaw02.ChecksumDetects", spec := "checksumDetects", named := ["intrusion/checksum.shifts"], apart := false, laid := [("intrusion/checksum.shifts", laid_intrusion_checksum_shifts)] }
def ChecksumDetectsSaid : Prop := checksumDetectsRow.holds Tryd.pinned (OpenSpec.ofChange checksumDetectsSpec)

/-- ITS FALSE NEIGHBOUR: 'it returns false'. Refute it at one input. -/
def checksumDetectsWrong : ChangeSpec := { name := "checksumDetects", fn := fun _ => fun
  | [d1, d2, d3] => { results := [.lit (.bool false)], args := [d1, d2, d3] }
  | _ => none }
def ChecksumDetectsWrongFalsely : Prop := checksumDetectsRow.holds Tryd.pinned (OpenSpec.ofChange checksumDetectsWrong)

/- THE SECOND FORM. 'bulk': how many values and letters a reading holds, each counted each time it is reached (what is shared counts as often as it is met; a slice's spare places count too). A statement '..UptoSaid' is the law's where the arguments, and the package variables that the reading takes, are together of bulk at most 1048576: NARROWER than '..Said'. Prove '..Said' where nothing that the law and all that it calls make is longer than what came in: it says more and counts as full. Else prove '..UptoSaid'. A law counts once. -/
mutual
def uptoBulk {H : Type} : DataW H → Nat
  | .lit (.string bytes) => bytes.length + 1
  | .lit _ => 1
  | .nil => 1
  | .ptr d => uptoBulk d + 1
  | .slice elems spare => uptoBulkAll elems + uptoBulkAll spare + 1
  | .agg parts => uptoBulkAll parts + 1
  | .iface _ d => uptoBulk d + 1
  | .map entries => uptoBulkEntries entries + 1
  | .held _ => 1
def uptoBulkAll {H : Type} : List (DataW H) → Nat
  | [] => 0
  | d :: r => uptoBulk d + uptoBulkAll r
def uptoBulkEntries {H : Type} : List (Lit × DataW H) → Nat
  | [] => 0
  | x :: r => uptoBulkEntry x + uptoBulkEntries r
def uptoBulkEntry {H : Type} : Lit × DataW H → Nat
  | (.string bytes, d) => bytes.length + uptoBulk d + 1
  | (_, d) => uptoBulk d + 1
 end
def uptoSmall : (H : Type) → List (DataW H) → Bool := fun _ ds => decide (uptoBulkAll ds ≤ 1048576)
def OpenSpec.upto (s : _root_.Go.ChangeSpec) : _root_.Go.OpenSpec := { _root_.Go.OpenSpec.ofChange s with cond := some uptoSmall }

/-- 'intrusionlaw02.ChecksumSums', WHERE WHAT IT READS IS OF BULK AT MOST 1048576: true; the input reads as it did. -/
def checksumSumsUptoRow : OpenClaim := { program := "ytjlhicpkceplhaadoor", sum := "b8e640c18f45964467128e1524760ee735313cc0c90940a1ab8daf5c7c57c017", func := "intrusion/intrusionlaw02.ChecksumSums", spec := "checksumSums", named := ["intrusion/checksum.shifts"], apart := false, laid := [("intrusion/checksum.shifts", laid_intrusion_checksum_shifts)], narrowed := true }
def ChecksumSumsUptoSaid : Prop := checksumSumsUptoRow.holds Tryd.pinned (OpenSpec.upto checksumSumsSpec)

/-- 'intrusionlaw02.ChecksumUpdates', WHERE WHAT IT READS IS OF BULK AT MOST 1048576: true; the input reads as it did. -/
def checksumUpdatesUptoRow : OpenClaim := { program := "ytjlhicpkceplhaadoor", sum := "b8e640c18f45964467128e1524760ee735313cc0c90940a1ab8daf5c7c57c017", func := "intrusion/intrusionlaw02.ChecksumUpdates", spec := "checksumUpdates", named := ["intrusion/checksum.shifts"], apart := false, laid := [("intrusion/checksum.shifts", laid_intrusion_checksum_shifts)], narrowed := true }
def ChecksumUpdatesUptoSaid : Prop := checksumUpdatesUptoRow.holds Tryd.pinned (OpenSpec.upto checksumUpdatesSpec)

/-- 'intrusionlaw02.ChecksumPseudo', WHERE WHAT IT READS IS OF BULK AT MOST 1048576: true; the input reads as it did. -/
def checksumPseudoUptoRow : OpenClaim := { program := "ytjlhicpkceplhaadoor", sum := "b8e640c18f45964467128e1524760ee735313cc0c90940a1ab8daf5c7c57c017", func := "intrusion/intrusionlaw02.ChecksumPseudo", spec := "checksumPseudo", named := ["intrusion/checksum.shifts"], apart := false, laid := [("intrusion/checksum.shifts", laid_intrusion_checksum_shifts)], narrowed := true }
def ChecksumPseudoUptoSaid : Prop := checksumPseudoUptoRow.holds Tryd.pinned (OpenSpec.upto checksumPseudoSpec)

/-- 'intrusionlaw02.ChecksumCrcs', WHERE WHAT IT READS IS OF BULK AT MOST 1048576: true; the input reads as it did. -/
def checksumCrcsUptoRow : OpenClaim := { program := "ytjlhicpkceplhaadoor", sum := "b8e640c18f45964467128e1524760ee735313cc0c90940a1ab8daf5c7c57c017", func := "intrusion/intrusionlaw02.ChecksumCrcs", spec := "checksumCrcs", named := ["intrusion/checksum.shifts"], apart := false, laid := [("intrusion/checksum.shifts", laid_intrusion_checksum_shifts)], narrowed := true }
def ChecksumCrcsUptoSaid : Prop := checksumCrcsUptoRow.holds Tryd.pinned (OpenSpec.upto checksumCrcsSpec)

/-- 'intrusionlaw02.ChecksumContinues', WHERE WHAT IT READS IS OF BULK AT MOST 1048576: true; the input reads as it did. -/
def checksumContinuesUptoRow : OpenClaim := { program := "ytjlhicpkceplhaadoor", sum := "b8e640c18f45964467128e1524760ee735313cc0c90940a1ab8daf5c7c57c017", func := "intrusion/intrusionlaw02.ChecksumContinues", spec := "checksumContinues", named := ["intrusion/checksum.shifts"], apart := false, laid := [("intrusion/checksum.shifts", laid_intrusion_checksum_shifts)], narrowed := true }
def ChecksumContinuesUptoSaid : Prop := checksumContinuesUptoRow.holds Tryd.pinned (OpenSpec.upto checksumContinuesSpec)

/-- 'intrusionlaw02.ChecksumZero', WHERE WHAT IT READS IS OF BULK AT MOST 1048576: true; the input reads as it did. -/
def checksumZeroUptoRow : OpenClaim := { program := "ytjlhicpkceplhaadoor", sum := "b8e640c18f45964467128e1524760ee735313cc0c90940a1ab8daf5c7c57c017", func := "intrusion/intrusionlaw02.ChecksumZero", spec := "checksumZero", named := ["intrusion/checksum.shifts"], apart := false, laid := [("intrusion/checksum.shifts", laid_intrusion_checksum_shifts)], narrowed := true }
def ChecksumZeroUptoSaid : Prop := checksumZeroUptoRow.holds Tryd.pinned (OpenSpec.upto checksumZeroSpec)

/-- 'intrusionlaw02.ChecksumDetects', WHERE WHAT IT READS IS OF BULK AT MOST 1048576: true; the input reads as it did. -/
def checksumDetectsUptoRow : OpenClaim := { program := "ytjlhicpkceplhaadoor", sum := "b8e640c18f45964467128e1524760ee735313cc0c90940a1ab8daf5c7c57c017", func := "intrusion/intrusionlaw02.ChecksumDetects", spec := "checksumDetects", named := ["intrusion/checksum.shifts"], apart := false, laid := [("intrusion/checksum.shifts", laid_intrusion_checksum_shifts)], narrowed := true }
def ChecksumDetectsUptoSaid : Prop := checksumDetectsUptoRow.holds Tryd.pinned (OpenSpec.upto checksumDetectsSpec)

end Rows
end Go.Proofs.YtjlhicpkceplhaaDoor
