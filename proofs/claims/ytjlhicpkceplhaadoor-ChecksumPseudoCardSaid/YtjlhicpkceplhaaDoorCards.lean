/-
  DERIVED. GIVEN WITH THE SEED: THE CARDS: each row of YtjlhicpkceplhaaDoorRows.lean that lists a variable, with what it lists TIED to the program's text (the seventh form; the later family's looks); each row that meets fmt, with fmt's text TOLD by the authors' own Lean function (tested against real Go, not proved from fmt's source: count such statements apart). THE CARD IS WHAT COUNTS. Prove the row's statement (the work); the ties are given (YtjlhicpkceplhaaDoorTie.lean); close each card by the builder's one call (the guide's Derived/Test/ToyasCard.lean, 'card_holds'). Laid BY PROGRAM, IN A SANDBOX (cutbox-door.mjs). By AI agents, Wed Nov 11 2026. No macro, syntax, notation, axiom, sorry.
-/
import Derived.Test.YtjlhicpkceplhaaDoorRows
import GoSem.ClaimSeven
namespace Go.Proofs.YtjlhicpkceplhaaDoor
namespace Rows

/-- THE TIED CARD OF 'intrusionlaw02.ChecksumSums'. -/
def checksumSumsCard : Claim7 := { stood := { row := checksumSumsRow, standIns := [], harness := (true, "6a7e2c219b07002a65b458d368c037fbf0669ad470b085e76f76ff6cb541b7d2"), looks := false }, kinds := [], alts := [], laidByText := true, laidKinds := [.widerDeep], laidTests := true, laidLooks := .later }
def ChecksumSumsCardSaid : Prop := Claim7.holds Tryd.pinned (.plain (OpenSpec.ofChange checksumSumsSpec)) checksumSumsCard

/-- THE TIED CARD OF 'intrusionlaw02.ChecksumUpdates'. -/
def checksumUpdatesCard : Claim7 := { stood := { row := checksumUpdatesRow, standIns := [], harness := (true, "6a7e2c219b07002a65b458d368c037fbf0669ad470b085e76f76ff6cb541b7d2"), looks := false }, kinds := [], alts := [], laidByText := true, laidKinds := [.widerDeep], laidTests := true, laidLooks := .later }
def ChecksumUpdatesCardSaid : Prop := Claim7.holds Tryd.pinned (.plain (OpenSpec.ofChange checksumUpdatesSpec)) checksumUpdatesCard

/-- THE TIED CARD OF 'intrusionlaw02.ChecksumPseudo'. -/
def checksumPseudoCard : Claim7 := { stood := { row := checksumPseudoRow, standIns := [], harness := (true, "6a7e2c219b07002a65b458d368c037fbf0669ad470b085e76f76ff6cb541b7d2"), looks := false }, kinds := [], alts := [], laidByText := true, laidKinds := [.widerDeep], laidTests := true, laidLooks := .later }
def ChecksumPseudoCardSaid : Prop := Claim7.holds Tryd.pinned (.plain (OpenSpec.ofChange checksumPseudoSpec)) checksumPseudoCard

/-- THE TIED CARD OF 'intrusionlaw02.ChecksumCrcs'. -/
def checksumCrcsCard : Claim7 := { stood := { row := checksumCrcsRow, standIns := [], harness := (true, "6a7e2c219b07002a65b458d368c037fbf0669ad470b085e76f76ff6cb541b7d2"), looks := false }, kinds := [], alts := [], laidByText := true, laidKinds := [.widerDeep], laidTests := true, laidLooks := .later }
def ChecksumCrcsCardSaid : Prop := Claim7.holds Tryd.pinned (.plain (OpenSpec.ofChange checksumCrcsSpec)) checksumCrcsCard

/-- THE TIED CARD OF 'intrusionlaw02.ChecksumContinues'. -/
def checksumContinuesCard : Claim7 := { stood := { row := checksumContinuesRow, standIns := [], harness := (true, "6a7e2c219b07002a65b458d368c037fbf0669ad470b085e76f76ff6cb541b7d2"), looks := false }, kinds := [], alts := [], laidByText := true, laidKinds := [.widerDeep], laidTests := true, laidLooks := .later }
def ChecksumContinuesCardSaid : Prop := Claim7.holds Tryd.pinned (.plain (OpenSpec.ofChange checksumContinuesSpec)) checksumContinuesCard

/-- THE TIED CARD OF 'intrusionlaw02.ChecksumZero'. -/
def checksumZeroCard : Claim7 := { stood := { row := checksumZeroRow, standIns := [], harness := (true, "6a7e2c219b07002a65b458d368c037fbf0669ad470b085e76f76ff6cb541b7d2"), looks := false }, kinds := [], alts := [], laidByText := true, laidKinds := [.widerDeep], laidTests := true, laidLooks := .later }
def ChecksumZeroCardSaid : Prop := Claim7.holds Tryd.pinned (.plain (OpenSpec.ofChange checksumZeroSpec)) checksumZeroCard

/-- THE TIED CARD OF 'intrusionlaw02.ChecksumDetects'. -/
def checksumDetectsCard : Claim7 := { stood := { row := checksumDetectsRow, standIns := [], harness := (true, "6a7e2c219b07002a65b458d368c037fbf0669ad470b085e76f76ff6cb541b7d2"), looks := false }, kinds := [], alts := [], laidByText := true, laidKinds := [.widerDeep], laidTests := true, laidLooks := .later }
def ChecksumDetectsCardSaid : Prop := Claim7.holds Tryd.pinned (.plain (OpenSpec.ofChange checksumDetectsSpec)) checksumDetectsCard

/-- THE SECOND FORM's CARD OF 'intrusionlaw02.ChecksumSums'. -/
def checksumSumsUptoCard : Claim7 := { stood := { row := checksumSumsUptoRow, standIns := [], harness := (true, "6a7e2c219b07002a65b458d368c037fbf0669ad470b085e76f76ff6cb541b7d2"), looks := false }, kinds := [], alts := [], laidByText := true, laidKinds := [.widerDeep], laidTests := true, laidLooks := .later }
def ChecksumSumsUptoCardSaid : Prop := Claim7.holds Tryd.pinned (.plain (OpenSpec.upto checksumSumsSpec)) checksumSumsUptoCard

/-- THE SECOND FORM's CARD OF 'intrusionlaw02.ChecksumUpdates'. -/
def checksumUpdatesUptoCard : Claim7 := { stood := { row := checksumUpdatesUptoRow, standIns := [], harness := (true, "6a7e2c219b07002a65b458d368c037fbf0669ad470b085e76f76ff6cb541b7d2"), looks := false }, kinds := [], alts := [], laidByText := true, laidKinds := [.widerDeep], laidTests := true, laidLooks := .later }
def ChecksumUpdatesUptoCardSaid : Prop := Claim7.holds Tryd.pinned (.plain (OpenSpec.upto checksumUpdatesSpec)) checksumUpdatesUptoCard

/-- THE SECOND FORM's CARD OF 'intrusionlaw02.ChecksumPseudo'. -/
def checksumPseudoUptoCard : Claim7 := { stood := { row := checksumPseudoUptoRow, standIns := [], harness := (true, "6a7e2c219b07002a65b458d368c037fbf0669ad470b085e76f76ff6cb541b7d2"), looks := false }, kinds := [], alts := [], laidByText := true, laidKinds := [.widerDeep], laidTests := true, laidLooks := .later }
def ChecksumPseudoUptoCardSaid : Prop := Claim7.holds Tryd.pinned (.plain (OpenSpec.upto checksumPseudoSpec)) checksumPseudoUptoCard

/-- THE SECOND FORM's CARD OF 'intrusionlaw02.ChecksumCrcs'. -/
def checksumCrcsUptoCard : Claim7 := { stood := { row := checksumCrcsUptoRow, standIns := [], harness := (true, "6a7e2c219b07002a65b458d368c037fbf0669ad470b085e76f76ff6cb541b7d2"), looks := false }, kinds := [], alts := [], laidByText := true, laidKinds := [.widerDeep], laidTests := true, laidLooks := .later }
def ChecksumCrcsUptoCardSaid : Prop := Claim7.holds Tryd.pinned (.plain (OpenSpec.upto checksumCrcsSpec)) checksumCrcsUptoCard

/-- THE SECOND FORM's CARD OF 'intrusionlaw02.ChecksumContinues'. -/
def checksumContinuesUptoCard : Claim7 := { stood := { row := checksumContinuesUptoRow, standIns := [], harness := (true, "6a7e2c219b07002a65b458d368c037fbf0669ad470b085e76f76ff6cb541b7d2"), looks := false }, kinds := [], alts := [], laidByText := true, laidKinds := [.widerDeep], laidTests := true, laidLooks := .later }
def ChecksumContinuesUptoCardSaid : Prop := Claim7.holds Tryd.pinned (.plain (OpenSpec.upto checksumContinuesSpec)) checksumContinuesUptoCard

/-- THE SECOND FORM's CARD OF 'intrusionlaw02.ChecksumZero'. -/
def checksumZeroUptoCard : Claim7 := { stood := { row := checksumZeroUptoRow, standIns := [], harness := (true, "6a7e2c219b07002a65b458d368c037fbf0669ad470b085e76f76ff6cb541b7d2"), looks := false }, kinds := [], alts := [], laidByText := true, laidKinds := [.widerDeep], laidTests := true, laidLooks := .later }
def ChecksumZeroUptoCardSaid : Prop := Claim7.holds Tryd.pinned (.plain (OpenSpec.upto checksumZeroSpec)) checksumZeroUptoCard

/-- THE SECOND FORM's CARD OF 'intrusionlaw02.ChecksumDetects'. -/
def checksumDetectsUptoCard : Claim7 := { stood := { row := checksumDetectsUptoRow, standIns := [], harness := (true, "6a7e2c219b07002a65b458d368c037fbf0669ad470b085e76f76ff6cb541b7d2"), looks := false }, kinds := [], alts := [], laidByText := true, laidKinds := [.widerDeep], laidTests := true, laidLooks := .later }
def ChecksumDetectsUptoCardSaid : Prop := Claim7.holds Tryd.pinned (.plain (OpenSpec.upto checksumDetectsSpec)) checksumDetectsUptoCard
end Rows
end Go.Proofs.YtjlhicpkceplhaaDoor
