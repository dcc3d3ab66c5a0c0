/- The statement EthernetRoundTrip holds: its row and its card, joined from its plain form and from the walks; no condition beyond the statement's own. Written by rows.py, a program of this claim's author. -/
import Derived.Test.YtellbiicmiljcaaDoorCards
import Derived.Test.YtellbiicmiljcaaDoorTie
import Derived.Test.YtellbiicmiljcaaDoorX15
import Derived.Test.YtellbiicmiljcaaDoorXR
import Derived.Test.YtellbiicmiljcaaDoorXDEthernetRoundTrip
import Derived.Test.YtellbiicmiljcaaDoorPureEthernetRoundTrip
import Derived.WalkKit
import Derived.ProofKit
import Derived.OpenShut
import Derived.ShutString
import Derived.ChangeOld
import Derived.Below
import Derived.SizedLaws
import Derived.Deep.DeepHandedRow
import Derived.Lib.LaidTab
namespace Go.Proofs.YtellbiicmiljcaaDoor.ethernetRoundTrip
open Go.ChangeShapes Go.WideShapes Go.ChangeAt
open Go.RowKit Go.Proofs.YtellbiicmiljcaaDoor.X Go.Proofs.YtellbiicmiljcaaDoorW.PrintWords Go.Proofs.YtellbiicmiljcaaDoorW.PrintLast Go.Proofs.YtellbiicmiljcaaDoorW.PrintMore
open Go.ChangeMaps (open_string shut_string)
set_option linter.unusedVariables false
theorem own : ownKnob Tryd.prog.godebug = none := by kernel_rfl
theorem laidOut : laidOutB Tryd.prog = true := by kernel_rfl
theorem cells26 : Tryd.prog.cellsOf 26 = 5 := by kernel_rfl
theorem cells23 : Tryd.prog.cellsOf 23 = 1 := by kernel_rfl
theorem cells24 : Tryd.prog.cellsOf 24 = 1 := by kernel_rfl
theorem cells3 : Tryd.prog.cellsOf 3 = 1 := by kernel_rfl
theorem cells9 : Tryd.prog.cellsOf 9 = 1 := by kernel_rfl
theorem gTab0 : Tryd.prog.globalNamed "intrusion/ethernet.tags" = some 0 := by kernel_rfl
theorem gTabType0 : (Tryd.prog.globals[0]?).map (·.type) = some 50 := by kernel_rfl
theorem cellsA0 : Tryd.prog.cellsOf 50 = 2 := by kernel_rfl
theorem cellsE0 : Tryd.prog.cellsOf 3 = 1 := by kernel_rfl
theorem table0 {W : World} (h : laidMetH Tryd.prog Rows.ethernetRoundTripRow.laid W) : Lib.TabIs Tryd.prog W "intrusion/ethernet.tags" .i64 TAB0 :=
  Lib.tabIs_of_head (rest := []) gTab0 gTabType0 Tryd.underlying50 Tryd.underlying3 cellsE0 cellsA0 h
theorem laid_of {W : World} (h : laidMetH Tryd.prog Rows.ethernetRoundTripRow.laid W) : Laid W := fun j hj => by
  have h2 := (table0 h).cell gTab0 j hj
  first | exact h2 | (rw [h2]; rfl) | (rw [h2]; simp [List.getD])
set_option maxHeartbeats 1000000 in
set_option maxRecDepth 100000 in
/-- What the law's contract gives, for every argument and every world. -/
theorem contract (H : Type) (enc : TypeId × Value → H) (W : World) (base : Nat) (args : Array Value) (ds gs : List (DataW H)) (before : List MemPlace)
    (hval : ∀ (j : Nat) t v, Tryd.f6.params[j]? = some t → args[j]? = some v → Value.okWide Tryd.prog W .any base t v)
    (hW : DataW.Whole enc Tryd.prog Tryd.f6.params.toList Rows.ethernetRoundTripSpec.vars false W args.toList ds gs before)
    (hsz0 : (DataW.weightsEach Tryd.prog (Tryd.f6.params.toList ++ Rows.ethernetRoundTripSpec.plain.varTypes Tryd.prog) (ds ++ gs)).all (· ≤ reachBytes) = true) (hL : laidMetH Tryd.prog Rows.ethernetRoundTripRow.laid W) :
    Calls Tryd.prog 6 args W fun e W' => ∃ v, e = .returned v ∧ Rows.ethernetRoundTripSpec.post enc Tryd.prog Tryd.f6 false true false false W args v W' := by
  have hsz := hsz0
  have hW' := hW
  obtain ⟨p, q, hA0, hV, rfl, hfz, hnd⟩ := hW
  have hA : DataW.TrodAll enc Tryd.prog W 0 (fun _ => true) true Tryd.f6.params.toList args.toList ds p := hA0
  rw [Tryd.params6] at hA hval hsz
  obtain ⟨v0, vs0, d0, ds0, p0, q0, hargs, rfl, rfl, h0, r0⟩ := trodAll_cons hA
  obtain ⟨rfl, rfl, rfl⟩ := trodAll_nil r0
  obtain rfl : args = #[v0] := by cases args; simp_all
  obtain ⟨rfl, rfl⟩ := trodVars_none hV
  have k0 := h0
  have lt0 : ∀ x ∈ p0, x.block < W.heap.size := by obtain ⟨m, hm⟩ := k0; exact DataW.trod_lt m _ _ _ hm
  obtain ⟨⟨cs0⟩, rfl, hz0⟩ := okWide_struct Tryd.underlying26 (hval 0 26 v0 rfl rfl)
  rw [cells26] at hz0
  obtain ⟨z0_0, z0_1, z0_2, z0_3, z0_4, rfl⟩ : ∃ z0_0 z0_1 z0_2 z0_3 z0_4 : Value, cs0 = [z0_0, z0_1, z0_2, z0_3, z0_4] := by
    match cs0, hz0 with
    | [z0_0, z0_1, z0_2, z0_3, z0_4], _ => exact ⟨z0_0, z0_1, z0_2, z0_3, z0_4, rfl⟩
  obtain ⟨fu0, hf0⟩ := h0
  replace hf0 : DataW.trod enc Tryd.prog W 0 (fun _ => true) true fu0 26 [z0_0, z0_1, z0_2, z0_3, z0_4] = some _ := hf0
  obtain ⟨m_1, F_2⟩ := fields_of Tryd.underlying26 hf0
  obtain ⟨y_3, e_4⟩ := field_at F_2 0 23 0 1 (by rfl) cells23
  replace e_4 : DataW.trod enc Tryd.prog W 0 (fun _ => true) true m_1 23 [z0_0] = some y_3 := e_4
  obtain ⟨a0_0, rfl, w0_0⟩ := read_int Tryd.underlying23 e_4
  obtain ⟨y_5, e_6⟩ := field_at F_2 1 23 1 1 (by rfl) cells23
  replace e_6 : DataW.trod enc Tryd.prog W 0 (fun _ => true) true m_1 23 [z0_1] = some y_5 := e_6
  obtain ⟨a0_1, rfl, w0_1⟩ := read_int Tryd.underlying23 e_6
  obtain ⟨y_7, e_8⟩ := field_at F_2 2 24 2 1 (by rfl) cells24
  replace e_8 : DataW.trod enc Tryd.prog W 0 (fun _ => true) true m_1 24 [z0_2] = some y_7 := e_8
  obtain ⟨A0_2, l0_2, c0_2, rfl, hc0_2, hr0_2, hq0_2⟩ := read_slice (Kd.int .i64) (fun x => (Lit.int .i64 x).wf = true) Tryd.underlying24 (by rw [cells3]; rfl) (fun n_ cs_ x_ h_ => by obtain ⟨a_, h1_, _, h2_⟩ := DataW.trod_int Tryd.underlying3 h_; exact ⟨a_, h2_, by subst h1_; exact rfl⟩) e_8
  obtain ⟨y_9, e_10⟩ := field_at F_2 3 3 3 1 (by rfl) cells3
  replace e_10 : DataW.trod enc Tryd.prog W 0 (fun _ => true) true m_1 3 [z0_3] = some y_9 := e_10
  obtain ⟨a0_3, rfl, w0_3⟩ := read_int Tryd.underlying3 e_10
  obtain ⟨y_11, e_12⟩ := field_at F_2 4 9 4 1 (by rfl) cells9
  replace e_12 : DataW.trod enc Tryd.prog W 0 (fun _ => true) true m_1 9 [z0_4] = some y_11 := e_12
  obtain ⟨a0_4, rfl, w0_4⟩ := read_string Tryd.underlying9 e_12
  clear hA0 hsz0 hsz
  obtain ⟨k, hk⟩ := Pure.EthernetRoundTrip a0_0 a0_1 l0_2 a0_3 a0_4 w0_0 w0_1 hr0_2.2.1 hq0_2 w0_3 w0_4
  refine (intrusionlaw10_EthernetRoundTrip.calls k a0_0 a0_1 _ _ l0_2 a0_3 a0_4 true W hr0_2 hc0_2 (laid_of hL) hk).mono fun e W' ⟨he, bel0⟩ => ?_
  have bel : Below W.heap.size W W' := bel0
  subst he
  exact ⟨_, rfl, _, _, _, [], _, [], hW', trodAll_mk1 (shut_bool Tryd.underlying4 _), (trodAll_cons_mk (Below.trod laidOut (by kernel_rfl) (of_decide_eq_true (by kernel_rfl)) k0 bel lt0) trodAll_mk0), rfl, bel.frame _, fun h => by cases h⟩
/-- A world for the witness: the settled one, the table holding what its initialiser lays. -/
noncomputable def laidWorld (os : Os) : World :=
  { World.holding Tryd.prog os ⟨#[], #[], []⟩ with heap := (World.holding Tryd.prog os ⟨#[], #[], []⟩).heap.modify 0 fun
      | .cells _ t frozen => .cells #[.int .i64 33024, .int .i64 34984] t frozen
      | o => o }
theorem laid_met (os : Os) : laidMet Tryd.prog Rows.ethernetRoundTripRow.laid ((laidWorld os).forCall (fun _ _ => 0) ⟨#[], #[.agg #[.int .u64 0, .int .u64 0, .slice none 0 0, .int .i64 0, .string ByteArray.empty]], []⟩).memory :=
  laidMet_of_run' 8 (by kernel_rfl) (by kernel_rfl)
theorem reads (os : Os) {H : Type} (enc : TypeId × Value → H) : ∃ places, DataW.whole enc Tryd.prog ((laidWorld os).forCall (fun _ _ => 0) ⟨#[], #[.agg #[.int .u64 0, .int .u64 0, .slice none 0 0, .int .i64 0, .string ByteArray.empty]], []⟩).memory Tryd.f6.params.toList Rows.ethernetRoundTripSpec.vars false (#[.agg #[.int .u64 0, .int .u64 0, .slice none 0 0, .int .i64 0, .string ByteArray.empty]] : Array Value).toList 8 = some ([.agg [.lit (.int .u64 0), .lit (.int .u64 0), .nil, .lit (.int .i64 0), .lit (.string [])]], [], places) :=
  ⟨[], by kernel_rfl⟩
set_option maxRecDepth 100000 in
theorem lifted (os : Os) (started : os.Started) (H : Type) (enc : TypeId × Value → H) (F : Stop.Interp) :
    ReturnsInHanded {} Tryd.checked os 6 .any ((OpenSpec.ofChange Rows.ethernetRoundTripSpec).preRow enc Tryd.prog Tryd.f6 Rows.ethernetRoundTripRow.domain false Rows.ethernetRoundTripRow.laid) (((OpenSpec.ofChange Rows.ethernetRoundTripSpec).at F).post enc Tryd.prog Tryd.f6 false true false false) := by
  obtain ⟨places, hx⟩ := reads os enc
  refine returnsInHanded_of_row (C := Tryd.checked) (s := OpenSpec.ofChange Rows.ethernetRoundTripSpec) own started (by kernel_rfl) Tryd.func6
    (witness_row_at (enc := enc) (C := Tryd.checked) false (laidWorld os) #[.agg #[.int .u64 0, .int .u64 0, .slice none 0 0, .int .i64 0, .string ByteArray.empty]] rfl (by kernel_rfl) (by kernel_rfl) (by kernel_rfl)
      (OpenSpec.preRow_of_cond 8 hx (by kernel_rfl) (fun k hk => by cases hk) (by kernel_rfl) (laid_met os))) ?_
  intro W base args ds gs before hval hW _ _ hsz hL _ _
  exact contract H enc W base args ds gs before hval hW hsz hL
theorem said : Rows.EthernetRoundTripSaid :=
  OpenClaim.holds_of_cond 6 Tryd.f6 rfl rfl rfl rfl rfl rfl rfl ⟨rfl, rfl, rfl, rfl, rfl⟩ rfl rfl rfl rfl rfl (by kernel_rfl) Tryd.func6 (by kernel_rfl)
    (of_decide_eq_true (by kernel_rfl)) (by unfold Func.isWrapper; first | (rw [if_pos (by decide +kernel)]; kernel_rfl) | (rw [if_neg (by decide +kernel)]; exact ⟨rfl, rfl⟩))
    (fun os started H enc _ F => by rw [OpenClaim.pre_eq_preRow]; exact lifted os started H enc F)
theorem plain (f : FuncId) (fn : Func) (hf : Tryd.pinned.checked.prog.funcNamed "intrusion/intrusionlaw10.EthernetRoundTrip" = some f) (hfn : Tryd.pinned.checked.prog.funcs[f]? = some fn) :
    false = Tryd.pinned.checked.prog.looks [] ∧ ∀ (j : Nat) t, fn.params[j]? = some t → Tryd.pinned.checked.prog.wantsStandIn t = false := by
  obtain rfl : f = 6 := Option.some.inj ((show Tryd.prog.funcNamed "intrusion/intrusionlaw10.EthernetRoundTrip" = some 6 by kernel_rfl).symm.trans hf) |>.symm
  obtain rfl : fn = Tryd.f6 := (Option.some.inj (Tryd.func6.symm.trans hfn)).symm
  refine ⟨by kernel_rfl, fun j t ht => ?_⟩
  rw [Tryd.params6] at ht
  have hm2 : t = 26 := by simpa using Array.mem_of_getElem? ht
  rcases hm2 with rfl
  · exact (show Tryd.prog.wantsStandIn 26 = false by kernel_rfl)
/-- THE CARD. -/
theorem card : Rows.EthernetRoundTripCardSaid :=
  Claim7.holds_tied_plain_at .later [] _ _ _ _ said (fun _ h => by cases h) (by kernel_rfl) (fun _ h => by cases h) ethernetRoundTrip_row_tie rfl ⟨rfl, rfl⟩ (by kernel_rfl) rfl plain (by kernel_rfl)
#print axioms card
end Go.Proofs.YtellbiicmiljcaaDoor.ethernetRoundTrip
namespace Go.Proofs.YtellbiicmiljcaaDoor
/-- The statement, under a short name, for the claim. -/
theorem ethernetRoundTrip_holds : Rows.EthernetRoundTripCardSaid := ethernetRoundTrip.card
end Go.Proofs.YtellbiicmiljcaaDoor
