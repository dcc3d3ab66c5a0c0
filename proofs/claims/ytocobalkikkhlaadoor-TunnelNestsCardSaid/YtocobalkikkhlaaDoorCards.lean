/-
  DERIVED. GIVEN WITH THE SEED: THE CARDS: each row of YtocobalkikkhlaaDoorRows.lean that lists a variable, with what it lists TIED to the program's text (the seventh form; the later family's looks); each row that meets fmt, with fmt's text TOLD by the authors' own Lean function (tested against real Go, not proved from fmt's source: count such statements apart). THE CARD IS WHAT COUNTS. Prove the row's statement (the work); the ties are given (YtocobalkikkhlaaDoorTie.lean); close each card by the builder's one call (the guide's Derived/Test/ToyasCard.lean, 'card_holds'). Laid BY PROGRAM, IN A SANDBOX (cutbox-door.mjs). By AI agents, Wed Nov 11 2026. No macro, syntax, notation, axiom, sorry.
-/
import Derived.Test.YtocobalkikkhlaaDoorRows
import GoSem.ClaimSeven
namespace Go.Proofs.YtocobalkikkhlaaDoor
namespace Rows

/-- THE TIED CARD OF 'intrusionlaw17.TunnelGre'. -/
def tunnelGreCard : Claim7 := { stood := { row := tunnelGreRow, standIns := [], harness := (true, "7e30d01c26581abdc064212956e399f562983afd3f63c3e01c5d16c883f9fe12"), looks := false }, kinds := [], alts := [], laidByText := true, laidKinds := [.widerDeep], laidTests := true, laidLooks := .later }
def TunnelGreCardSaid : Prop := Claim7.holds Tryd.pinned (.plain (OpenSpec.ofChange tunnelGreSpec)) tunnelGreCard

/-- THE TIED CARD OF 'intrusionlaw17.TunnelNests'. -/
def tunnelNestsCard : Claim7 := { stood := { row := tunnelNestsRow, standIns := [], harness := (true, "7e30d01c26581abdc064212956e399f562983afd3f63c3e01c5d16c883f9fe12"), looks := false }, kinds := [], alts := [], laidByText := true, laidKinds := [.widerDeep], laidTests := true, laidLooks := .later }
def TunnelNestsCardSaid : Prop := Claim7.holds Tryd.pinned (.plain (OpenSpec.ofChange tunnelNestsSpec)) tunnelNestsCard

/-- THE TIED CARD OF 'intrusionlaw17.TunnelInner'. -/
def tunnelInnerCard : Claim7 := { stood := { row := tunnelInnerRow, standIns := [], harness := (true, "7e30d01c26581abdc064212956e399f562983afd3f63c3e01c5d16c883f9fe12"), looks := false }, kinds := [], alts := [], laidByText := true, laidKinds := [.widerDeep], laidTests := true, laidLooks := .later }
def TunnelInnerCardSaid : Prop := Claim7.holds Tryd.pinned (.plain (OpenSpec.ofChange tunnelInnerSpec)) tunnelInnerCard

/-- THE TIED CARD OF 'intrusionlaw17.TunnelNotices'. -/
def tunnelNoticesCard : Claim7 := { stood := { row := tunnelNoticesRow, standIns := [], harness := (true, "7e30d01c26581abdc064212956e399f562983afd3f63c3e01c5d16c883f9fe12"), looks := false }, kinds := [], alts := [], laidByText := true, laidKinds := [.widerDeep], laidTests := true, laidLooks := .later }
def TunnelNoticesCardSaid : Prop := Claim7.holds Tryd.pinned (.plain (OpenSpec.ofChange tunnelNoticesSpec)) tunnelNoticesCard

/-- THE TIED CARD OF 'intrusionlaw17.TunnelFrames'. -/
def tunnelFramesCard : Claim7 := { stood := { row := tunnelFramesRow, standIns := [], harness := (true, "7e30d01c26581abdc064212956e399f562983afd3f63c3e01c5d16c883f9fe12"), looks := false }, kinds := [], alts := [], laidByText := true, laidKinds := [.widerDeep, .data], laidTests := true, laidLooks := .later }
def TunnelFramesCardSaid : Prop := Claim7.holds Tryd.pinned (.plain (OpenSpec.ofChange tunnelFramesSpec)) tunnelFramesCard

/-- THE TIED CARD OF 'intrusionlaw17.TunnelWraps'. -/
def tunnelWrapsCard : Claim7 := { stood := { row := tunnelWrapsRow, standIns := [], harness := (true, "7e30d01c26581abdc064212956e399f562983afd3f63c3e01c5d16c883f9fe12"), looks := false }, kinds := [], alts := [], laidByText := true, laidKinds := [.widerDeep], laidTests := true, laidLooks := .later }
def TunnelWrapsCardSaid : Prop := Claim7.holds Tryd.pinned (.plain (OpenSpec.ofChange tunnelWrapsSpec)) tunnelWrapsCard

/-- THE TIED CARD OF 'intrusionlaw17.TunnelRoundTrip'. -/
def tunnelRoundTripCard : Claim7 := { stood := { row := tunnelRoundTripRow, standIns := [], harness := (true, "7e30d01c26581abdc064212956e399f562983afd3f63c3e01c5d16c883f9fe12"), looks := false }, kinds := [], alts := [], laidByText := true, laidKinds := [.widerDeep], laidTests := true, laidLooks := .later }
def TunnelRoundTripCardSaid : Prop := Claim7.holds Tryd.pinned (.plain (OpenSpec.ofChange tunnelRoundTripSpec)) tunnelRoundTripCard

/-- THE SECOND FORM's CARD OF 'intrusionlaw17.TunnelGre'. -/
def tunnelGreUptoCard : Claim7 := { stood := { row := tunnelGreUptoRow, standIns := [], harness := (true, "7e30d01c26581abdc064212956e399f562983afd3f63c3e01c5d16c883f9fe12"), looks := false }, kinds := [], alts := [], laidByText := true, laidKinds := [.widerDeep], laidTests := true, laidLooks := .later }
def TunnelGreUptoCardSaid : Prop := Claim7.holds Tryd.pinned (.plain (OpenSpec.upto tunnelGreSpec)) tunnelGreUptoCard

/-- THE SECOND FORM's CARD OF 'intrusionlaw17.TunnelNests'. -/
def tunnelNestsUptoCard : Claim7 := { stood := { row := tunnelNestsUptoRow, standIns := [], harness := (true, "7e30d01c26581abdc064212956e399f562983afd3f63c3e01c5d16c883f9fe12"), looks := false }, kinds := [], alts := [], laidByText := true, laidKinds := [.widerDeep], laidTests := true, laidLooks := .later }
def TunnelNestsUptoCardSaid : Prop := Claim7.holds Tryd.pinned (.plain (OpenSpec.upto tunnelNestsSpec)) tunnelNestsUptoCard

/-- THE SECOND FORM's CARD OF 'intrusionlaw17.TunnelInner'. -/
def tunnelInnerUptoCard : Claim7 := { stood := { row := tunnelInnerUptoRow, standIns := [], harness := (true, "7e30d01c26581abdc064212956e399f562983afd3f63c3e01c5d16c883f9fe12"), looks := false }, kinds := [], alts := [], laidByText := true, laidKinds := [.widerDeep], laidTests := true, laidLooks := .later }
def TunnelInnerUptoCardSaid : Prop := Claim7.holds Tryd.pinned (.plain (OpenSpec.upto tunnelInnerSpec)) tunnelInnerUptoCard

/-- THE SECOND FORM's CARD OF 'intrusionlaw17.TunnelNotices'. -/
def tunnelNoticesUptoCard : Claim7 := { stood := { row := tunnelNoticesUptoRow, standIns := [], harness := (true, "7e30d01c26581abdc064212956e399f562983afd3f63c3e01c5d16c883f9fe12"), looks := false }, kinds := [], alts := [], laidByText := true, laidKinds := [.widerDeep], laidTests := true, laidLooks := .later }
def TunnelNoticesUptoCardSaid : Prop := Claim7.holds Tryd.pinned (.plain (OpenSpec.upto tunnelNoticesSpec)) tunnelNoticesUptoCard

/-- THE SECOND FORM's CARD OF 'intrusionlaw17.TunnelFrames'. -/
def tunnelFramesUptoCard : Claim7 := { stood := { row := tunnelFramesUptoRow, standIns := [], harness := (true, "7e30d01c26581abdc064212956e399f562983afd3f63c3e01c5d16c883f9fe12"), looks := false }, kinds := [], alts := [], laidByText := true, laidKinds := [.widerDeep, .data], laidTests := true, laidLooks := .later }
def TunnelFramesUptoCardSaid : Prop := Claim7.holds Tryd.pinned (.plain (OpenSpec.upto tunnelFramesSpec)) tunnelFramesUptoCard

/-- THE SECOND FORM's CARD OF 'intrusionlaw17.TunnelWraps'. -/
def tunnelWrapsUptoCard : Claim7 := { stood := { row := tunnelWrapsUptoRow, standIns := [], harness := (true, "7e30d01c26581abdc064212956e399f562983afd3f63c3e01c5d16c883f9fe12"), looks := false }, kinds := [], alts := [], laidByText := true, laidKinds := [.widerDeep], laidTests := true, laidLooks := .later }
def TunnelWrapsUptoCardSaid : Prop := Claim7.holds Tryd.pinned (.plain (OpenSpec.upto tunnelWrapsSpec)) tunnelWrapsUptoCard

/-- THE SECOND FORM's CARD OF 'intrusionlaw17.TunnelRoundTrip'. -/
def tunnelRoundTripUptoCard : Claim7 := { stood := { row := tunnelRoundTripUptoRow, standIns := [], harness := (true, "7e30d01c26581abdc064212956e399f562983afd3f63c3e01c5d16c883f9fe12"), looks := false }, kinds := [], alts := [], laidByText := true, laidKinds := [.widerDeep], laidTests := true, laidLooks := .later }
def TunnelRoundTripUptoCardSaid : Prop := Claim7.holds Tryd.pinned (.plain (OpenSpec.upto tunnelRoundTripSpec)) tunnelRoundTripUptoCard
end Rows
end Go.Proofs.YtocobalkikkhlaaDoor
