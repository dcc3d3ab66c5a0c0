/- The statement TunnelNests holds: its row and its card, joined from its plain form and from the walks; no condition beyond the statement's own. Written by rows.py, a program of this claim's author. -/
import Derived.Test.YtocobalkikkhlaaDoorCards
import Derived.Test.YtocobalkikkhlaaDoorTie
import Derived.Test.YtocobalkikkhlaaDoorX19
import Derived.Test.YtocobalkikkhlaaDoorXR
import Derived.Test.YtocobalkikkhlaaDoorXDTunnelNests
import Derived.Test.YtocobalkikkhlaaDoorPureTunnelNests
import Derived.WalkKit
import Derived.ProofKit
import Derived.OpenShut
import Derived.ShutString
import Derived.ChangeOld
import Derived.Below
import Derived.SizedLaws
import Derived.Deep.DeepHandedRow
import Derived.Lib.LaidTab
namespace Go.Proofs.YtocobalkikkhlaaDoor.tunnelNests
open Go.ChangeShapes Go.WideShapes Go.ChangeAt
open Go.RowKit Go.Proofs.YtocobalkikkhlaaDoor.X Go.Proofs.YtocobalkikkhlaaDoorW.PrintWords Go.Proofs.YtocobalkikkhlaaDoorW.PrintLast Go.Proofs.YtocobalkikkhlaaDoorW.PrintMore
open Go.ChangeMaps (open_string shut_string)
set_option linter.unusedVariables false
theorem own : ownKnob Tryd.prog.godebug = none := by kernel_rfl
theorem laidOut : laidOutB Tryd.prog = true := by kernel_rfl
theorem cells26 : Tryd.prog.cellsOf 26 = 6 := by kernel_rfl
theorem cells24 : Tryd.prog.cellsOf 24 = 3 := by kernel_rfl
theorem cells4 : Tryd.prog.cellsOf 4 = 1 := by kernel_rfl
theorem cells22 : Tryd.prog.cellsOf 22 = 1 := by kernel_rfl
theorem cells38 : Tryd.prog.cellsOf 38 = 1 := by kernel_rfl
theorem cells9 : Tryd.prog.cellsOf 9 = 1 := by kernel_rfl
theorem gTab1 : Tryd.prog.globalNamed "intrusion/checksum.shifts" = some 1 := by kernel_rfl
theorem gTabType1 : (Tryd.prog.globals[1]?).map (·.type) = some 150 := by kernel_rfl
theorem cellsA1 : Tryd.prog.cellsOf 150 = 8 := by kernel_rfl
theorem cellsE1 : Tryd.prog.cellsOf 51 = 1 := by kernel_rfl
theorem table1 {W : World} (h : laidMetH Tryd.prog Rows.tunnelNestsRow.laid W) : Lib.TabIs Tryd.prog W "intrusion/checksum.shifts" .u64 TAB1 :=
  Lib.tabIs_of_head (rest := []) gTab1 gTabType1 Tryd.underlying150 Tryd.underlying51 cellsE1 cellsA1 h
theorem laid_of {W : World} (h : laidMetH Tryd.prog Rows.tunnelNestsRow.laid W) : Laid W := fun j hj => by
  have h2 := (table1 h).cell gTab1 j hj
  first | exact h2 | (rw [h2]; rfl) | (rw [h2]; simp [List.getD])
set_option maxHeartbeats 1000000 in
set_option maxRecDepth 100000 in
/-- What the law's contract gives, for every argument and every world. -/
theorem contract (H : Type) (enc : TypeId × Value → H) (W : World) (base : Nat) (args : Array Value) (ds gs : List (DataW H)) (before : List MemPlace)
    (hval : ∀ (j : Nat) t v, Tryd.f4.params[j]? = some t → args[j]? = some v → Value.okWide Tryd.prog W .any base t v)
    (hW : DataW.Whole enc Tryd.prog Tryd.f4.params.toList Rows.tunnelNestsSpec.vars false W args.toList ds gs before)
    (hsz0 : (DataW.weightsEach Tryd.prog (Tryd.f4.params.toList ++ Rows.tunnelNestsSpec.plain.varTypes Tryd.prog) (ds ++ gs)).all (· ≤ reachBytes) = true) (hL : laidMetH Tryd.prog Rows.tunnelNestsRow.laid W) :
    Calls Tryd.prog 4 args W fun e W' => ∃ v, e = .returned v ∧ Rows.tunnelNestsSpec.post enc Tryd.prog Tryd.f4 false true false false W args v W' := by
  have hsz := hsz0
  have hW' := hW
  obtain ⟨p, q, hA0, hV, rfl, hfz, hnd⟩ := hW
  have hA : DataW.TrodAll enc Tryd.prog W 0 (fun _ => true) true Tryd.f4.params.toList args.toList ds p := hA0
  rw [Tryd.params4] at hA hval hsz
  obtain ⟨v0, vs0, d0, ds0, p0, q0, hargs, rfl, rfl, h0, r0⟩ := trodAll_cons hA
  obtain ⟨v1, vs1, d1, ds1, p1, q1, rfl, rfl, rfl, h1, r1⟩ := trodAll_cons r0
  obtain ⟨v2, vs2, d2, ds2, p2, q2, rfl, rfl, rfl, h2, r2⟩ := trodAll_cons r1
  obtain ⟨v3, vs3, d3, ds3, p3, q3, rfl, rfl, rfl, h3, r3⟩ := trodAll_cons r2
  obtain ⟨rfl, rfl, rfl⟩ := trodAll_nil r3
  obtain rfl : args = #[v0, v1, v2, v3] := by cases args; simp_all
  obtain ⟨rfl, rfl⟩ := trodVars_none hV
  have k0 := h0
  have lt0 : ∀ x ∈ p0, x.block < W.heap.size := by obtain ⟨m, hm⟩ := k0; exact DataW.trod_lt m _ _ _ hm
  obtain ⟨⟨cs0⟩, rfl, hz0⟩ := okWide_struct Tryd.underlying26 (hval 0 26 v0 rfl rfl)
  rw [cells26] at hz0
  obtain ⟨z0_0, z0_1, z0_2, z0_3, z0_4, z0_5, rfl⟩ : ∃ z0_0 z0_1 z0_2 z0_3 z0_4 z0_5 : Value, cs0 = [z0_0, z0_1, z0_2, z0_3, z0_4, z0_5] := by
    match cs0, hz0 with
    | [z0_0, z0_1, z0_2, z0_3, z0_4, z0_5], _ => exact ⟨z0_0, z0_1, z0_2, z0_3, z0_4, z0_5, rfl⟩
  obtain ⟨fu0, hf0⟩ := h0
  replace hf0 : DataW.trod enc Tryd.prog W 0 (fun _ => true) true fu0 26 [z0_0, z0_1, z0_2, z0_3, z0_4, z0_5] = some _ := hf0
  obtain ⟨m_1, F_2⟩ := fields_of Tryd.underlying26 hf0
  obtain ⟨y_3, e_4⟩ := field_at F_2 0 24 0 3 (by rfl) cells24
  replace e_4 : DataW.trod enc Tryd.prog W 0 (fun _ => true) true m_1 24 [z0_0, z0_1, z0_2] = some y_3 := e_4
  obtain ⟨m_5, F_6⟩ := fields_of Tryd.underlying24 e_4
  obtain ⟨y_7, e_8⟩ := field_at F_6 0 4 0 1 (by rfl) cells4
  replace e_8 : DataW.trod enc Tryd.prog W 0 (fun _ => true) true m_5 4 [z0_0] = some y_7 := e_8
  obtain ⟨a0_0, rfl⟩ := read_bool Tryd.underlying4 e_8
  obtain ⟨y_9, e_10⟩ := field_at F_6 1 22 1 1 (by rfl) cells22
  replace e_10 : DataW.trod enc Tryd.prog W 0 (fun _ => true) true m_5 22 [z0_1] = some y_9 := e_10
  obtain ⟨a0_1, rfl, w0_1⟩ := read_int Tryd.underlying22 e_10
  obtain ⟨y_11, e_12⟩ := field_at F_6 2 22 2 1 (by rfl) cells22
  replace e_12 : DataW.trod enc Tryd.prog W 0 (fun _ => true) true m_5 22 [z0_2] = some y_11 := e_12
  obtain ⟨a0_2, rfl, w0_2⟩ := read_int Tryd.underlying22 e_12
  obtain ⟨y_13, e_14⟩ := field_at F_2 1 24 3 3 (by rfl) cells24
  replace e_14 : DataW.trod enc Tryd.prog W 0 (fun _ => true) true m_1 24 [z0_3, z0_4, z0_5] = some y_13 := e_14
  obtain ⟨m_15, F_16⟩ := fields_of Tryd.underlying24 e_14
  obtain ⟨y_17, e_18⟩ := field_at F_16 0 4 0 1 (by rfl) cells4
  replace e_18 : DataW.trod enc Tryd.prog W 0 (fun _ => true) true m_15 4 [z0_3] = some y_17 := e_18
  obtain ⟨a0_3, rfl⟩ := read_bool Tryd.underlying4 e_18
  obtain ⟨y_19, e_20⟩ := field_at F_16 1 22 1 1 (by rfl) cells22
  replace e_20 : DataW.trod enc Tryd.prog W 0 (fun _ => true) true m_15 22 [z0_4] = some y_19 := e_20
  obtain ⟨a0_4, rfl, w0_4⟩ := read_int Tryd.underlying22 e_20
  obtain ⟨y_21, e_22⟩ := field_at F_16 2 22 2 1 (by rfl) cells22
  replace e_22 : DataW.trod enc Tryd.prog W 0 (fun _ => true) true m_15 22 [z0_5] = some y_21 := e_22
  obtain ⟨a0_5, rfl, w0_5⟩ := read_int Tryd.underlying22 e_22
  have k1 := h1
  have lt1 : ∀ x ∈ p1, x.block < W.heap.size := by obtain ⟨m, hm⟩ := k1; exact DataW.trod_lt m _ _ _ hm
  obtain ⟨⟨cs1⟩, rfl, hz1⟩ := okWide_struct Tryd.underlying26 (hval 1 26 v1 rfl rfl)
  rw [cells26] at hz1
  obtain ⟨z1_0, z1_1, z1_2, z1_3, z1_4, z1_5, rfl⟩ : ∃ z1_0 z1_1 z1_2 z1_3 z1_4 z1_5 : Value, cs1 = [z1_0, z1_1, z1_2, z1_3, z1_4, z1_5] := by
    match cs1, hz1 with
    | [z1_0, z1_1, z1_2, z1_3, z1_4, z1_5], _ => exact ⟨z1_0, z1_1, z1_2, z1_3, z1_4, z1_5, rfl⟩
  obtain ⟨fu1, hf1⟩ := h1
  replace hf1 : DataW.trod enc Tryd.prog W 0 (fun _ => true) true fu1 26 [z1_0, z1_1, z1_2, z1_3, z1_4, z1_5] = some _ := hf1
  obtain ⟨m_23, F_24⟩ := fields_of Tryd.underlying26 hf1
  obtain ⟨y_25, e_26⟩ := field_at F_24 0 24 0 3 (by rfl) cells24
  replace e_26 : DataW.trod enc Tryd.prog W 0 (fun _ => true) true m_23 24 [z1_0, z1_1, z1_2] = some y_25 := e_26
  obtain ⟨m_27, F_28⟩ := fields_of Tryd.underlying24 e_26
  obtain ⟨y_29, e_30⟩ := field_at F_28 0 4 0 1 (by rfl) cells4
  replace e_30 : DataW.trod enc Tryd.prog W 0 (fun _ => true) true m_27 4 [z1_0] = some y_29 := e_30
  obtain ⟨a1_0, rfl⟩ := read_bool Tryd.underlying4 e_30
  obtain ⟨y_31, e_32⟩ := field_at F_28 1 22 1 1 (by rfl) cells22
  replace e_32 : DataW.trod enc Tryd.prog W 0 (fun _ => true) true m_27 22 [z1_1] = some y_31 := e_32
  obtain ⟨a1_1, rfl, w1_1⟩ := read_int Tryd.underlying22 e_32
  obtain ⟨y_33, e_34⟩ := field_at F_28 2 22 2 1 (by rfl) cells22
  replace e_34 : DataW.trod enc Tryd.prog W 0 (fun _ => true) true m_27 22 [z1_2] = some y_33 := e_34
  obtain ⟨a1_2, rfl, w1_2⟩ := read_int Tryd.underlying22 e_34
  obtain ⟨y_35, e_36⟩ := field_at F_24 1 24 3 3 (by rfl) cells24
  replace e_36 : DataW.trod enc Tryd.prog W 0 (fun _ => true) true m_23 24 [z1_3, z1_4, z1_5] = some y_35 := e_36
  obtain ⟨m_37, F_38⟩ := fields_of Tryd.underlying24 e_36
  obtain ⟨y_39, e_40⟩ := field_at F_38 0 4 0 1 (by rfl) cells4
  replace e_40 : DataW.trod enc Tryd.prog W 0 (fun _ => true) true m_37 4 [z1_3] = some y_39 := e_40
  obtain ⟨a1_3, rfl⟩ := read_bool Tryd.underlying4 e_40
  obtain ⟨y_41, e_42⟩ := field_at F_38 1 22 1 1 (by rfl) cells22
  replace e_42 : DataW.trod enc Tryd.prog W 0 (fun _ => true) true m_37 22 [z1_4] = some y_41 := e_42
  obtain ⟨a1_4, rfl, w1_4⟩ := read_int Tryd.underlying22 e_42
  obtain ⟨y_43, e_44⟩ := field_at F_38 2 22 2 1 (by rfl) cells22
  replace e_44 : DataW.trod enc Tryd.prog W 0 (fun _ => true) true m_37 22 [z1_5] = some y_43 := e_44
  obtain ⟨a1_5, rfl, w1_5⟩ := read_int Tryd.underlying22 e_44
  obtain ⟨a2, rfl, rfl, rfl, w2⟩ := open_int Tryd.underlying38 (hval 2 38 v2 rfl rfl) h2
  obtain ⟨a3, rfl, rfl, rfl, y3⟩ := open_string Tryd.underlying9 (hval 3 9 v3 rfl rfl) h3
  have w3 : a3.size ≤ 140737488351232 := by
    have z := sized_string hsz (j := 3) (t := 9) rfl rfl
    rw [Array.length_toList] at z
    exact z
  clear hA0 hsz0 hsz
  obtain ⟨k, hk⟩ := Pure.TunnelNests a0_0 a0_1 a0_2 a0_3 a0_4 a0_5 a1_0 a1_1 a1_2 a1_3 a1_4 a1_5 a2 a3 w0_1 w0_2 w0_4 w0_5 w1_1 w1_2 w1_4 w1_5 w2 w3
  refine (intrusionlaw17_TunnelNests.calls k a0_0 a0_1 a0_2 a0_3 a0_4 a0_5 a1_0 a1_1 a1_2 a1_3 a1_4 a1_5 a2 a3 true W (laid_of hL) hk).mono fun e W' ⟨he, bel0⟩ => ?_
  have bel : Below W.heap.size W W' := bel0
  subst he
  exact ⟨_, rfl, _, _, _, [], _, [], hW', trodAll_mk1 (shut_bool Tryd.underlying4 _), (trodAll_cons_mk (Below.trod laidOut (by kernel_rfl) (of_decide_eq_true (by kernel_rfl)) k0 bel lt0) (trodAll_cons_mk (Below.trod laidOut (by kernel_rfl) (of_decide_eq_true (by kernel_rfl)) k1 bel lt1) (trodAll_cons_mk (shut_int Tryd.underlying38 w2) (trodAll_cons_mk (shut_string Tryd.underlying9 y3) trodAll_mk0)))), rfl, bel.frame _, fun h => by cases h⟩
/-- A world for the witness: the settled one, the listed variables holding what their initialisers lay. -/
noncomputable def laidWorld (os : Os) : World :=
  { World.holding Tryd.prog os ⟨#[], #[], []⟩ with heap := ((World.holding Tryd.prog os ⟨#[], #[], []⟩).heap).modify 1 (fun | .cells _ t frozen => .cells #[.int .u64 56, .int .u64 48, .int .u64 40, .int .u64 32, .int .u64 24, .int .u64 16, .int .u64 8, .int .u64 0] t frozen | o => o) }
theorem laid_met (os : Os) : laidMet Tryd.prog Rows.tunnelNestsRow.laid ((laidWorld os).forCall (fun _ _ => 0) ⟨#[], #[.agg #[.bool false, .int .u64 0, .int .u64 0, .bool false, .int .u64 0, .int .u64 0], .agg #[.bool false, .int .u64 0, .int .u64 0, .bool false, .int .u64 0, .int .u64 0], .int .u16 0, .string ByteArray.empty], []⟩).memory :=
  laidMet_of_run' 8 (by kernel_rfl) (by kernel_rfl)
theorem reads (os : Os) {H : Type} (enc : TypeId × Value → H) : ∃ places, DataW.whole enc Tryd.prog ((laidWorld os).forCall (fun _ _ => 0) ⟨#[], #[.agg #[.bool false, .int .u64 0, .int .u64 0, .bool false, .int .u64 0, .int .u64 0], .agg #[.bool false, .int .u64 0, .int .u64 0, .bool false, .int .u64 0, .int .u64 0], .int .u16 0, .string ByteArray.empty], []⟩).memory Tryd.f4.params.toList Rows.tunnelNestsSpec.vars false (#[.agg #[.bool false, .int .u64 0, .int .u64 0, .bool false, .int .u64 0, .int .u64 0], .agg #[.bool false, .int .u64 0, .int .u64 0, .bool false, .int .u64 0, .int .u64 0], .int .u16 0, .string ByteArray.empty] : Array Value).toList 8 = some ([.agg [.agg [.lit (.bool false), .lit (.int .u64 0), .lit (.int .u64 0)], .agg [.lit (.bool false), .lit (.int .u64 0), .lit (.int .u64 0)]], .agg [.agg [.lit (.bool false), .lit (.int .u64 0), .lit (.int .u64 0)], .agg [.lit (.bool false), .lit (.int .u64 0), .lit (.int .u64 0)]], .lit (.int .u16 0), .lit (.string [])], [], places) :=
  ⟨[], by kernel_rfl⟩
set_option maxRecDepth 100000 in
theorem lifted (os : Os) (started : os.Started) (H : Type) (enc : TypeId × Value → H) (F : Stop.Interp) :
    ReturnsInHanded {} Tryd.checked os 4 .any ((OpenSpec.ofChange Rows.tunnelNestsSpec).preRow enc Tryd.prog Tryd.f4 Rows.tunnelNestsRow.domain false Rows.tunnelNestsRow.laid) (((OpenSpec.ofChange Rows.tunnelNestsSpec).at F).post enc Tryd.prog Tryd.f4 false true false false) := by
  obtain ⟨places, hx⟩ := reads os enc
  refine returnsInHanded_of_row (C := Tryd.checked) (s := OpenSpec.ofChange Rows.tunnelNestsSpec) own started (by kernel_rfl) Tryd.func4
    (witness_row_at (enc := enc) (C := Tryd.checked) false (laidWorld os) #[.agg #[.bool false, .int .u64 0, .int .u64 0, .bool false, .int .u64 0, .int .u64 0], .agg #[.bool false, .int .u64 0, .int .u64 0, .bool false, .int .u64 0, .int .u64 0], .int .u16 0, .string ByteArray.empty] rfl (by kernel_rfl) (by kernel_rfl) (by kernel_rfl)
      (OpenSpec.preRow_of_cond 8 hx (by kernel_rfl) (fun k hk => by cases hk) (by kernel_rfl) (laid_met os))) ?_
  intro W base args ds gs before hval hW _ _ hsz hL _ _
  exact contract H enc W base args ds gs before hval hW hsz hL
theorem said : Rows.TunnelNestsSaid :=
  OpenClaim.holds_of_cond 4 Tryd.f4 rfl rfl rfl rfl rfl rfl rfl ⟨rfl, rfl, rfl, rfl, rfl⟩ rfl rfl rfl rfl rfl (by kernel_rfl) Tryd.func4 (by kernel_rfl)
    (of_decide_eq_true (by kernel_rfl)) (by unfold Func.isWrapper; first | (rw [if_pos (by decide +kernel)]; kernel_rfl) | (rw [if_neg (by decide +kernel)]; exact ⟨rfl, rfl⟩))
    (fun os started H enc _ F => by rw [OpenClaim.pre_eq_preRow]; exact lifted os started H enc F)
theorem plain (f : FuncId) (fn : Func) (hf : Tryd.pinned.checked.prog.funcNamed "intrusion/intrusionlaw17.TunnelNests" = some f) (hfn : Tryd.pinned.checked.prog.funcs[f]? = some fn) :
    false = Tryd.pinned.checked.prog.looks [] ∧ ∀ (j : Nat) t, fn.params[j]? = some t → Tryd.pinned.checked.prog.wantsStandIn t = false := by
  obtain rfl : f = 4 := Option.some.inj ((show Tryd.prog.funcNamed "intrusion/intrusionlaw17.TunnelNests" = some 4 by kernel_rfl).symm.trans hf) |>.symm
  obtain rfl : fn = Tryd.f4 := (Option.some.inj (Tryd.func4.symm.trans hfn)).symm
  refine ⟨by kernel_rfl, fun j t ht => ?_⟩
  rw [Tryd.params4] at ht
  have hm := Array.mem_of_getElem? ht
  have hm2 : t = 26 ∨ t = 26 ∨ t = 38 ∨ t = 9 := by simpa using hm
  rcases hm2 with rfl | rfl | rfl | rfl
  · exact (show Tryd.prog.wantsStandIn 26 = false by kernel_rfl)
  · exact (show Tryd.prog.wantsStandIn 26 = false by kernel_rfl)
  · exact (show Tryd.prog.wantsStandIn 38 = false by kernel_rfl)
  · exact (show Tryd.prog.wantsStandIn 9 = false by kernel_rfl)
/-- THE CARD. -/
theorem card : Rows.TunnelNestsCardSaid :=
  Claim7.holds_tied_plain_at .later [] _ _ _ _ said (fun _ h => by cases h) (by kernel_rfl) (fun _ h => by cases h) tunnelNests_row_tie rfl ⟨rfl, rfl⟩ (by kernel_rfl) rfl plain (by kernel_rfl)
#print axioms card
end Go.Proofs.YtocobalkikkhlaaDoor.tunnelNests
namespace Go.Proofs.YtocobalkikkhlaaDoor
/-- The statement, under a short name, for the claim. -/
theorem tunnelNests_holds : Rows.TunnelNestsCardSaid := tunnelNests.card
end Go.Proofs.YtocobalkikkhlaaDoor
