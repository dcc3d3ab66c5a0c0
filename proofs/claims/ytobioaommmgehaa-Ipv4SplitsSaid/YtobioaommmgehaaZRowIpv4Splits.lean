/- The statement Ipv4Splits holds: its row and its card, joined from its plain form and from the walks; no condition beyond the statement's own. Written by rows.py, a program of this claim's author. -/
import Derived.Test.YtobioaommmgehaaRows
import Derived.Test.YtobioaommmgehaaZ20
import Derived.Test.YtobioaommmgehaaZR
import Derived.Test.YtobioaommmgehaaZDIpv4Splits
import Derived.Test.YtobioaommmgehaaPureIpv4Splits
import Derived.WalkKit
import Derived.ProofKit
import Derived.OpenShut
import Derived.ShutString
import Derived.ChangeOld
import Derived.Below
import Derived.SizedLaws
import Derived.Deep.DeepHandedRow
import Derived.Lib.LaidTab
namespace Go.Proofs.Ytobioaommmgehaa.ipv4Splits
open Go.ChangeShapes Go.WideShapes Go.ChangeAt
open Go.RowKit Go.Proofs.Ytobioaommmgehaa.Z Go.Proofs.YtobioaommmgehaaW.PrintWords Go.Proofs.YtobioaommmgehaaW.PrintLast Go.Proofs.YtobioaommmgehaaW.PrintMore
open Go.ChangeMaps (open_string shut_string)
set_option linter.unusedVariables false
theorem own : ownKnob Try.prog.godebug = none := by kernel_rfl
theorem laidOut : laidOutB Try.prog = true := by kernel_rfl
theorem cells28 : Try.prog.cellsOf 28 = 15 := by kernel_rfl
theorem cells3 : Try.prog.cellsOf 3 = 1 := by kernel_rfl
theorem cells4 : Try.prog.cellsOf 4 = 1 := by kernel_rfl
theorem cells25 : Try.prog.cellsOf 25 = 3 := by kernel_rfl
theorem cells23 : Try.prog.cellsOf 23 = 1 := by kernel_rfl
theorem cells26 : Try.prog.cellsOf 26 = 1 := by kernel_rfl
theorem cells50 : Try.prog.cellsOf 50 = 2 := by kernel_rfl
theorem cells9 : Try.prog.cellsOf 9 = 1 := by kernel_rfl
set_option maxHeartbeats 1000000 in
set_option maxRecDepth 100000 in
/-- What the law's contract gives, for every argument and every world. -/
theorem contract (H : Type) (enc : TypeId × Value → H) (W : World) (base : Nat) (args : Array Value) (ds gs : List (DataW H)) (before : List MemPlace)
    (hval : ∀ (j : Nat) t v, Try.f5.params[j]? = some t → args[j]? = some v → Value.okWide Try.prog W .any base t v)
    (hW : DataW.Whole enc Try.prog Try.f5.params.toList Rows.ipv4SplitsSpec.vars false W args.toList ds gs before)
    (hsz0 : (DataW.weightsEach Try.prog (Try.f5.params.toList ++ Rows.ipv4SplitsSpec.plain.varTypes Try.prog) (ds ++ gs)).all (· ≤ reachBytes) = true) :
    Calls Try.prog 5 args W fun e W' => ∃ v, e = .returned v ∧ Rows.ipv4SplitsSpec.post enc Try.prog Try.f5 false true false false W args v W' := by
  have hsz := hsz0
  have hW' := hW
  obtain ⟨p, q, hA0, hV, rfl, hfz, hnd⟩ := hW
  have hA : DataW.TrodAll enc Try.prog W 0 (fun _ => true) true Try.f5.params.toList args.toList ds p := hA0
  rw [Try.params5] at hA hval hsz
  obtain ⟨v0, vs0, d0, ds0, p0, q0, hargs, rfl, rfl, h0, r0⟩ := trodAll_cons hA
  obtain ⟨v1, vs1, d1, ds1, p1, q1, rfl, rfl, rfl, h1, r1⟩ := trodAll_cons r0
  obtain ⟨rfl, rfl, rfl⟩ := trodAll_nil r1
  obtain rfl : args = #[v0, v1] := by cases args; simp_all
  obtain ⟨rfl, rfl⟩ := trodVars_none hV
  have k0 := h0
  have lt0 : ∀ x ∈ p0, x.block < W.heap.size := by obtain ⟨m, hm⟩ := k0; exact DataW.trod_lt m _ _ _ hm
  obtain ⟨⟨cs0⟩, rfl, hz0⟩ := okWide_struct Try.underlying28 (hval 0 28 v0 rfl rfl)
  rw [cells28] at hz0
  obtain ⟨z0_0, z0_1, z0_2, z0_3, z0_4, z0_5, z0_6, z0_7, z0_8, z0_9, z0_10, z0_11, z0_12, z0_13, z0_14, rfl⟩ : ∃ z0_0 z0_1 z0_2 z0_3 z0_4 z0_5 z0_6 z0_7 z0_8 z0_9 z0_10 z0_11 z0_12 z0_13 z0_14 : Value, cs0 = [z0_0, z0_1, z0_2, z0_3, z0_4, z0_5, z0_6, z0_7, z0_8, z0_9, z0_10, z0_11, z0_12, z0_13, z0_14] := by
    match cs0, hz0 with
    | [z0_0, z0_1, z0_2, z0_3, z0_4, z0_5, z0_6, z0_7, z0_8, z0_9, z0_10, z0_11, z0_12, z0_13, z0_14], _ => exact ⟨z0_0, z0_1, z0_2, z0_3, z0_4, z0_5, z0_6, z0_7, z0_8, z0_9, z0_10, z0_11, z0_12, z0_13, z0_14, rfl⟩
  obtain ⟨fu0, hf0⟩ := h0
  replace hf0 : DataW.trod enc Try.prog W 0 (fun _ => true) true fu0 28 [z0_0, z0_1, z0_2, z0_3, z0_4, z0_5, z0_6, z0_7, z0_8, z0_9, z0_10, z0_11, z0_12, z0_13, z0_14] = some (d0, p0) := hf0
  have ghf0 : Fits Try.prog 28 (d0, p0) := fits_at hsz (j := 0) rfl rfl
  obtain ⟨m_1, F_2⟩ := fields_of Try.underlying28 hf0 ghf0
  obtain ⟨y_3, e_4, ge_4⟩ := field_at F_2 0 3 0 1 (by rfl) cells3
  replace e_4 : DataW.trod enc Try.prog W 0 (fun _ => true) true m_1 3 [z0_0] = some y_3 := e_4
  obtain ⟨a0_0, rfl, w0_0⟩ := read_int Try.underlying3 e_4
  obtain ⟨y_5, e_6, ge_6⟩ := field_at F_2 1 3 1 1 (by rfl) cells3
  replace e_6 : DataW.trod enc Try.prog W 0 (fun _ => true) true m_1 3 [z0_1] = some y_5 := e_6
  obtain ⟨a0_1, rfl, w0_1⟩ := read_int Try.underlying3 e_6
  obtain ⟨y_7, e_8, ge_8⟩ := field_at F_2 2 3 2 1 (by rfl) cells3
  replace e_8 : DataW.trod enc Try.prog W 0 (fun _ => true) true m_1 3 [z0_2] = some y_7 := e_8
  obtain ⟨a0_2, rfl, w0_2⟩ := read_int Try.underlying3 e_8
  obtain ⟨y_9, e_10, ge_10⟩ := field_at F_2 3 3 3 1 (by rfl) cells3
  replace e_10 : DataW.trod enc Try.prog W 0 (fun _ => true) true m_1 3 [z0_3] = some y_9 := e_10
  obtain ⟨a0_3, rfl, w0_3⟩ := read_int Try.underlying3 e_10
  obtain ⟨y_11, e_12, ge_12⟩ := field_at F_2 4 4 4 1 (by rfl) cells4
  replace e_12 : DataW.trod enc Try.prog W 0 (fun _ => true) true m_1 4 [z0_4] = some y_11 := e_12
  obtain ⟨a0_4, rfl⟩ := read_bool Try.underlying4 e_12
  obtain ⟨y_13, e_14, ge_14⟩ := field_at F_2 5 4 5 1 (by rfl) cells4
  replace e_14 : DataW.trod enc Try.prog W 0 (fun _ => true) true m_1 4 [z0_5] = some y_13 := e_14
  obtain ⟨a0_5, rfl⟩ := read_bool Try.underlying4 e_14
  obtain ⟨y_15, e_16, ge_16⟩ := field_at F_2 6 3 6 1 (by rfl) cells3
  replace e_16 : DataW.trod enc Try.prog W 0 (fun _ => true) true m_1 3 [z0_6] = some y_15 := e_16
  obtain ⟨a0_6, rfl, w0_6⟩ := read_int Try.underlying3 e_16
  obtain ⟨y_17, e_18, ge_18⟩ := field_at F_2 7 25 7 3 (by rfl) cells25
  replace e_18 : DataW.trod enc Try.prog W 0 (fun _ => true) true m_1 25 [z0_7, z0_8, z0_9] = some y_17 := e_18
  obtain ⟨m_19, F_20⟩ := fields_of Try.underlying25 e_18 ge_18
  obtain ⟨y_21, e_22, ge_22⟩ := field_at F_20 0 4 0 1 (by rfl) cells4
  replace e_22 : DataW.trod enc Try.prog W 0 (fun _ => true) true m_19 4 [z0_7] = some y_21 := e_22
  obtain ⟨a0_7, rfl⟩ := read_bool Try.underlying4 e_22
  obtain ⟨y_23, e_24, ge_24⟩ := field_at F_20 1 23 1 1 (by rfl) cells23
  replace e_24 : DataW.trod enc Try.prog W 0 (fun _ => true) true m_19 23 [z0_8] = some y_23 := e_24
  obtain ⟨a0_8, rfl, w0_8⟩ := read_int Try.underlying23 e_24
  obtain ⟨y_25, e_26, ge_26⟩ := field_at F_20 2 23 2 1 (by rfl) cells23
  replace e_26 : DataW.trod enc Try.prog W 0 (fun _ => true) true m_19 23 [z0_9] = some y_25 := e_26
  obtain ⟨a0_9, rfl, w0_9⟩ := read_int Try.underlying23 e_26
  obtain ⟨y_27, e_28, ge_28⟩ := field_at F_2 8 25 10 3 (by rfl) cells25
  replace e_28 : DataW.trod enc Try.prog W 0 (fun _ => true) true m_1 25 [z0_10, z0_11, z0_12] = some y_27 := e_28
  obtain ⟨m_29, F_30⟩ := fields_of Try.underlying25 e_28 ge_28
  obtain ⟨y_31, e_32, ge_32⟩ := field_at F_30 0 4 0 1 (by rfl) cells4
  replace e_32 : DataW.trod enc Try.prog W 0 (fun _ => true) true m_29 4 [z0_10] = some y_31 := e_32
  obtain ⟨a0_10, rfl⟩ := read_bool Try.underlying4 e_32
  obtain ⟨y_33, e_34, ge_34⟩ := field_at F_30 1 23 1 1 (by rfl) cells23
  replace e_34 : DataW.trod enc Try.prog W 0 (fun _ => true) true m_29 23 [z0_11] = some y_33 := e_34
  obtain ⟨a0_11, rfl, w0_11⟩ := read_int Try.underlying23 e_34
  obtain ⟨y_35, e_36, ge_36⟩ := field_at F_30 2 23 2 1 (by rfl) cells23
  replace e_36 : DataW.trod enc Try.prog W 0 (fun _ => true) true m_29 23 [z0_12] = some y_35 := e_36
  obtain ⟨a0_12, rfl, w0_12⟩ := read_int Try.underlying23 e_36
  obtain ⟨y_37, e_38, ge_38⟩ := field_at F_2 9 26 13 1 (by rfl) cells26
  replace e_38 : DataW.trod enc Try.prog W 0 (fun _ => true) true m_1 26 [z0_13] = some y_37 := e_38
  obtain ⟨A0_13, l0_13, c0_13, rfl, hc0_13, hr0_13, hq0_13⟩ := read_slice k50 (fun x => (Lit.int .i64 x.f0).wf = true ∧ x.f1.size ≤ 140737488351232) Try.underlying26 (by rw [cells50]; rfl) (fun n_ cs_ x_ h_ hw_ => by
    obtain ⟨xs_, m_, _, _, hl_, _⟩ := DataW.trod_struct Try.underlying50 h_
    rw [cells50] at hl_
    obtain ⟨z0_, z1_, rfl⟩ : ∃ z0_ z1_ : Value, cs_ = [z0_, z1_] := by
      match cs_, hl_ with
      | [z0_, z1_], _ => exact ⟨z0_, z1_, rfl⟩
    obtain ⟨m2_, hF_⟩ := fields_of Try.underlying50 h_ hw_
    obtain ⟨y0_, e0_, g0_⟩ := field_at hF_ 0 3 0 1 (by rfl) cells3
    obtain ⟨b0_, rfl, w0_⟩ := read_int Try.underlying3 e0_
    obtain ⟨y1_, e1_, g1_⟩ := field_at hF_ 1 9 1 1 (by rfl) cells9
    obtain ⟨b1_, rfl, w1_⟩ := read_string Try.underlying9 e1_ g1_
    exact ⟨(⟨b0_, b1_⟩ : S50), ⟨w0_, w1_⟩, k50_mk _ _⟩) e_38 ge_38
  obtain ⟨y_39, e_40, ge_40⟩ := field_at F_2 10 9 14 1 (by rfl) cells9
  replace e_40 : DataW.trod enc Try.prog W 0 (fun _ => true) true m_1 9 [z0_14] = some y_39 := e_40
  obtain ⟨a0_14, rfl, w0_14⟩ := read_string Try.underlying9 e_40 ge_40
  obtain ⟨a1, rfl, rfl, rfl, w1⟩ := open_int Try.underlying3 (hval 1 3 v1 rfl rfl) h1
  clear hA0 hsz0 hsz
  obtain ⟨k, hk⟩ := Pure.Ipv4Splits a0_0 a0_1 a0_2 a0_3 a0_4 a0_5 a0_6 a0_7 a0_8 a0_9 a0_10 a0_11 a0_12 l0_13 a0_14 a1 w0_0 w0_1 w0_2 w0_3 w0_6 w0_8 w0_9 w0_11 w0_12 hr0_13.2.1 hq0_13 w0_14 w1
  refine (intrusionlaw11_Ipv4Splits.calls k a0_0 a0_1 a0_2 a0_3 a0_4 a0_5 a0_6 a0_7 a0_8 a0_9 a0_10 a0_11 a0_12 _ _ l0_13 a0_14 a1 true W hr0_13 hc0_13 hk).mono fun e W' ⟨he, bel0⟩ => ?_
  have bel : Below W.heap.size W W' := bel0
  subst he
  exact ⟨_, rfl, _, _, _, [], _, [], hW', trodAll_mk1 (shut_bool Try.underlying4 _), (trodAll_cons_mk (Below.trod laidOut (by kernel_rfl) (of_decide_eq_true (by kernel_rfl)) k0 bel lt0) (trodAll_cons_mk (shut_int Try.underlying3 w1) trodAll_mk0)), rfl, bel.frame _, fun h => by cases h⟩
noncomputable def laidWorld (os : Os) : World := World.holding Try.prog os ⟨#[], #[], []⟩
theorem laid_met (os : Os) : laidMet Try.prog Rows.ipv4SplitsRow.laid ((laidWorld os).forCall (fun _ _ => 0) ⟨#[], #[.agg #[.int .i64 0, .int .i64 0, .int .i64 0, .int .i64 0, .bool false, .bool false, .int .i64 0, .bool false, .int .u64 0, .int .u64 0, .bool false, .int .u64 0, .int .u64 0, .slice none 0 0, .string ByteArray.empty], .int .i64 0], []⟩).memory :=
  laidMet_of_run' 8 (by kernel_rfl) (by kernel_rfl)
theorem reads (os : Os) {H : Type} (enc : TypeId × Value → H) : ∃ places, DataW.whole enc Try.prog ((laidWorld os).forCall (fun _ _ => 0) ⟨#[], #[.agg #[.int .i64 0, .int .i64 0, .int .i64 0, .int .i64 0, .bool false, .bool false, .int .i64 0, .bool false, .int .u64 0, .int .u64 0, .bool false, .int .u64 0, .int .u64 0, .slice none 0 0, .string ByteArray.empty], .int .i64 0], []⟩).memory Try.f5.params.toList Rows.ipv4SplitsSpec.vars false (#[.agg #[.int .i64 0, .int .i64 0, .int .i64 0, .int .i64 0, .bool false, .bool false, .int .i64 0, .bool false, .int .u64 0, .int .u64 0, .bool false, .int .u64 0, .int .u64 0, .slice none 0 0, .string ByteArray.empty], .int .i64 0] : Array Value).toList 8 = some ([.agg [.lit (.int .i64 0), .lit (.int .i64 0), .lit (.int .i64 0), .lit (.int .i64 0), .lit (.bool false), .lit (.bool false), .lit (.int .i64 0), .agg [.lit (.bool false), .lit (.int .u64 0), .lit (.int .u64 0)], .agg [.lit (.bool false), .lit (.int .u64 0), .lit (.int .u64 0)], .nil, .lit (.string [])], .lit (.int .i64 0)], [], places) :=
  ⟨[], by kernel_rfl⟩
set_option maxRecDepth 100000 in
theorem lifted (os : Os) (started : os.Started) (H : Type) (enc : TypeId × Value → H) (F : Stop.Interp) :
    ReturnsInHanded {} Try.checked os 5 .any ((OpenSpec.ofChange Rows.ipv4SplitsSpec).preRow enc Try.prog Try.f5 Rows.ipv4SplitsRow.domain false Rows.ipv4SplitsRow.laid) (((OpenSpec.ofChange Rows.ipv4SplitsSpec).at F).post enc Try.prog Try.f5 false true false false) := by
  obtain ⟨places, hx⟩ := reads os enc
  refine returnsInHanded_of_row (C := Try.checked) (s := OpenSpec.ofChange Rows.ipv4SplitsSpec) own started (by kernel_rfl) Try.func5
    (witness_row_at (enc := enc) (C := Try.checked) false (laidWorld os) #[.agg #[.int .i64 0, .int .i64 0, .int .i64 0, .int .i64 0, .bool false, .bool false, .int .i64 0, .bool false, .int .u64 0, .int .u64 0, .bool false, .int .u64 0, .int .u64 0, .slice none 0 0, .string ByteArray.empty], .int .i64 0] rfl (by kernel_rfl) (by kernel_rfl) (by kernel_rfl)
      (OpenSpec.preRow_of_cond 8 hx (by kernel_rfl) (fun k hk => by cases hk) (by kernel_rfl) (laid_met os))) ?_
  intro W base args ds gs before hval hW _ _ hsz hL _ _
  exact contract H enc W base args ds gs before hval hW hsz
theorem said : Rows.Ipv4SplitsSaid :=
  OpenClaim.holds_of_cond 5 Try.f5 rfl rfl rfl rfl rfl rfl rfl ⟨rfl, rfl, rfl, rfl, rfl⟩ rfl rfl rfl rfl rfl (by kernel_rfl) Try.func5 (by kernel_rfl)
    (of_decide_eq_true (by kernel_rfl)) (by unfold Func.isWrapper; first | (rw [if_pos (by decide +kernel)]; kernel_rfl) | (rw [if_neg (by decide +kernel)]; exact ⟨rfl, rfl⟩))
    (fun os started H enc _ F => by rw [OpenClaim.pre_eq_preRow]; exact lifted os started H enc F)
#print axioms said
end Go.Proofs.Ytobioaommmgehaa.ipv4Splits
namespace Go.Proofs.Ytobioaommmgehaa
/-- The statement, under a short name, for the claim. -/
theorem ipv4Splits_holds : Rows.Ipv4SplitsSaid := ipv4Splits.said
end Go.Proofs.Ytobioaommmgehaa
