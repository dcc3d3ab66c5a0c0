/- The statement CaptureRoundTrip holds: its row and its card, joined from its plain form and from the walks; no condition beyond the statement's own. Written by rows.py, a program of this claim's author. -/
import Derived.Test.YtafjmciojeondaaRows
import Derived.Test.YtafjmciojeondaaX24
import Derived.Test.YtafjmciojeondaaXR
import Derived.Test.YtafjmciojeondaaXDCaptureRoundTrip
import Derived.Test.YtafjmciojeondaaPureCaptureRoundTrip
import Derived.WalkKit
import Derived.ProofKit
import Derived.OpenShut
import Derived.ShutString
import Derived.ChangeOld
import Derived.Below
import Derived.SizedLaws
import Derived.Deep.DeepHandedRow
import Derived.Lib.LaidTab
namespace Go.Proofs.Ytafjmciojeondaa.captureRoundTrip
open Go.ChangeShapes Go.WideShapes Go.ChangeAt
open Go.RowKit Go.Proofs.Ytafjmciojeondaa.X Go.Proofs.YtafjmciojeondaaW.PrintWords Go.Proofs.YtafjmciojeondaaW.PrintLast Go.Proofs.YtafjmciojeondaaW.PrintMore
open Go.ChangeMaps (open_string shut_string)
set_option linter.unusedVariables false
theorem own : ownKnob Try.prog.godebug = none := by kernel_rfl
theorem laidOut : laidOutB Try.prog = true := by kernel_rfl
theorem cells23 : Try.prog.cellsOf 23 = 1 := by kernel_rfl
theorem cells33 : Try.prog.cellsOf 33 = 3 := by kernel_rfl
theorem cells3 : Try.prog.cellsOf 3 = 1 := by kernel_rfl
theorem cells9 : Try.prog.cellsOf 9 = 1 := by kernel_rfl
set_option maxHeartbeats 1000000 in
set_option maxRecDepth 100000 in
/-- What the law's contract gives, for every argument and every world. -/
theorem contract (H : Type) (enc : TypeId × Value → H) (W : World) (base : Nat) (args : Array Value) (ds gs : List (DataW H)) (before : List MemPlace)
    (hval : ∀ (j : Nat) t v, Try.f9.params[j]? = some t → args[j]? = some v → Value.okWide Try.prog W .any base t v)
    (hW : DataW.Whole enc Try.prog Try.f9.params.toList Rows.captureRoundTripSpec.vars false W args.toList ds gs before)
    (hsz0 : (DataW.weightsEach Try.prog (Try.f9.params.toList ++ Rows.captureRoundTripSpec.plain.varTypes Try.prog) (ds ++ gs)).all (· ≤ reachBytes) = true) :
    Calls Try.prog 9 args W fun e W' => ∃ v, e = .returned v ∧ Rows.captureRoundTripSpec.post enc Try.prog Try.f9 false true false false W args v W' := by
  have hsz := hsz0
  have hW' := hW
  obtain ⟨p, q, hA0, hV, rfl, hfz, hnd⟩ := hW
  have hA : DataW.TrodAll enc Try.prog W 0 (fun _ => true) true Try.f9.params.toList args.toList ds p := hA0
  rw [Try.params9] at hA hval hsz
  obtain ⟨v0, vs0, d0, ds0, p0, q0, hargs, rfl, rfl, h0, r0⟩ := trodAll_cons hA
  obtain ⟨rfl, rfl, rfl⟩ := trodAll_nil r0
  obtain rfl : args = #[v0] := by cases args; simp_all
  obtain ⟨rfl, rfl⟩ := trodVars_none hV
  have k0 := h0
  have lt0 : ∀ x ∈ p0, x.block < W.heap.size := by obtain ⟨m, hm⟩ := k0; exact DataW.trod_lt m _ _ _ hm
  obtain ⟨a0, len0, cap0, rfl⟩ := okWide_slice Try.underlying23 (hval 0 23 v0 rfl rfl)
  obtain ⟨fu0, hf0⟩ := h0
  replace hf0 : DataW.trod enc Try.prog W 0 (fun _ => true) true fu0 23 [.slice a0 len0 cap0] = some (d0, p0) := hf0
  have ghf0 : Fits Try.prog 23 (d0, p0) := fits_at hsz (j := 0) rfl rfl
  obtain ⟨A0, l0, c0, sv0, hc0, hr0, hq0⟩ := read_slice k33 (fun x => (Lit.int .i64 x.f0).wf = true ∧ (Lit.int .i64 x.f1).wf = true ∧ x.f2.size ≤ 140737488351232) Try.underlying23 (by rw [cells33]; rfl) (fun n_ cs_ x_ h_ hw_ => by
    obtain ⟨xs_, m_, _, _, hl_, _⟩ := DataW.trod_struct Try.underlying33 h_
    rw [cells33] at hl_
    obtain ⟨z0_, z1_, z2_, rfl⟩ : ∃ z0_ z1_ z2_ : Value, cs_ = [z0_, z1_, z2_] := by
      match cs_, hl_ with
      | [z0_, z1_, z2_], _ => exact ⟨z0_, z1_, z2_, rfl⟩
    obtain ⟨m2_, hF_⟩ := fields_of Try.underlying33 h_ hw_
    obtain ⟨y0_, e0_, g0_⟩ := field_at hF_ 0 3 0 1 (by rfl) cells3
    obtain ⟨b0_, rfl, w0_⟩ := read_int Try.underlying3 e0_
    obtain ⟨y1_, e1_, g1_⟩ := field_at hF_ 1 3 1 1 (by rfl) cells3
    obtain ⟨b1_, rfl, w1_⟩ := read_int Try.underlying3 e1_
    obtain ⟨y2_, e2_, g2_⟩ := field_at hF_ 2 9 2 1 (by rfl) cells9
    obtain ⟨b2_, rfl, w2_⟩ := read_string Try.underlying9 e2_ g2_
    exact ⟨(⟨b0_, b1_, b2_⟩ : S33), ⟨w0_, w1_, w2_⟩, k33_mk _ _⟩) hf0 ghf0
  injection sv0 with sv1_ sv2_ sv3_
  subst sv1_ sv2_ sv3_
  clear hA0 hsz0 hsz
  obtain ⟨k, hk⟩ := Pure.CaptureRoundTrip l0 hr0.2.1 hq0
  refine (intrusionlaw09_CaptureRoundTrip.calls k _ _ l0 true W hr0 hc0 hk).mono fun e W' ⟨he, bel0⟩ => ?_
  have bel : Below W.heap.size W W' := bel0
  subst he
  exact ⟨_, rfl, _, _, _, [], _, [], hW', trodAll_mk1 (shut_bool Try.underlying4 _), (trodAll_cons_mk (Below.trod laidOut (by kernel_rfl) (of_decide_eq_true (by kernel_rfl)) k0 bel lt0) trodAll_mk0), rfl, bel.frame _, fun h => by cases h⟩
noncomputable def laidWorld (os : Os) : World := World.holding Try.prog os ⟨#[], #[], []⟩
theorem laid_met (os : Os) : laidMet Try.prog Rows.captureRoundTripRow.laid ((laidWorld os).forCall (fun _ _ => 0) ⟨#[], #[.slice none 0 0], []⟩).memory :=
  laidMet_of_run' 8 (by kernel_rfl) (by kernel_rfl)
theorem reads (os : Os) {H : Type} (enc : TypeId × Value → H) : ∃ places, DataW.whole enc Try.prog ((laidWorld os).forCall (fun _ _ => 0) ⟨#[], #[.slice none 0 0], []⟩).memory Try.f9.params.toList Rows.captureRoundTripSpec.vars false (#[.slice none 0 0] : Array Value).toList 8 = some ([.nil], [], places) :=
  ⟨[], by kernel_rfl⟩
set_option maxRecDepth 100000 in
theorem lifted (os : Os) (started : os.Started) (H : Type) (enc : TypeId × Value → H) (F : Stop.Interp) :
    ReturnsInHanded {} Try.checked os 9 .any ((OpenSpec.ofChange Rows.captureRoundTripSpec).preRow enc Try.prog Try.f9 Rows.captureRoundTripRow.domain false Rows.captureRoundTripRow.laid) (((OpenSpec.ofChange Rows.captureRoundTripSpec).at F).post enc Try.prog Try.f9 false true false false) := by
  obtain ⟨places, hx⟩ := reads os enc
  refine returnsInHanded_of_row (C := Try.checked) (s := OpenSpec.ofChange Rows.captureRoundTripSpec) own started (by kernel_rfl) Try.func9
    (witness_row_at (enc := enc) (C := Try.checked) false (laidWorld os) #[.slice none 0 0] rfl (by kernel_rfl) (by kernel_rfl) (by kernel_rfl)
      (OpenSpec.preRow_of_cond 8 hx (by kernel_rfl) (fun k hk => by cases hk) (by kernel_rfl) (laid_met os))) ?_
  intro W base args ds gs before hval hW _ _ hsz hL _ _
  exact contract H enc W base args ds gs before hval hW hsz
theorem said : Rows.CaptureRoundTripSaid :=
  OpenClaim.holds_of_cond 9 Try.f9 rfl rfl rfl rfl rfl rfl rfl ⟨rfl, rfl, rfl, rfl, rfl⟩ rfl rfl rfl rfl rfl (by kernel_rfl) Try.func9 (by kernel_rfl)
    (of_decide_eq_true (by kernel_rfl)) (by unfold Func.isWrapper; first | (rw [if_pos (by decide +kernel)]; kernel_rfl) | (rw [if_neg (by decide +kernel)]; exact ⟨rfl, rfl⟩))
    (fun os started H enc _ F => by rw [OpenClaim.pre_eq_preRow]; exact lifted os started H enc F)
#print axioms said
end Go.Proofs.Ytafjmciojeondaa.captureRoundTrip
namespace Go.Proofs.Ytafjmciojeondaa
/-- The statement, under a short name, for the claim. -/
theorem captureRoundTrip_holds : Rows.CaptureRoundTripSaid := captureRoundTrip.said
end Go.Proofs.Ytafjmciojeondaa
