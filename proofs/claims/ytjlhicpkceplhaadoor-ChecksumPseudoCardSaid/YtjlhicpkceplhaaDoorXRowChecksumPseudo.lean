/- The statement ChecksumPseudo holds: its row and its card, joined from its plain form and from the walks; no condition beyond the statement's own. Written by rows.py, a program of this claim's author. -/
import Derived.Test.YtjlhicpkceplhaaDoorCards
import Derived.Test.YtjlhicpkceplhaaDoorTie
import Derived.Test.YtjlhicpkceplhaaDoorX6
import Derived.Test.YtjlhicpkceplhaaDoorXR
import Derived.Test.YtjlhicpkceplhaaDoorXDChecksumPseudo
import Derived.Test.YtjlhicpkceplhaaDoorPureChecksumPseudo
import Derived.WalkKit
import Derived.ProofKit
import Derived.OpenShut
import Derived.ShutString
import Derived.ChangeOld
import Derived.Below
import Derived.SizedLaws
import Derived.Deep.DeepHandedRow
import Derived.Lib.LaidTab
namespace Go.Proofs.YtjlhicpkceplhaaDoor.checksumPseudo
open Go.ChangeShapes Go.WideShapes Go.ChangeAt
open Go.RowKit Go.Proofs.YtjlhicpkceplhaaDoor.X Go.Proofs.YtjlhicpkceplhaaDoorW.PrintWords Go.Proofs.YtjlhicpkceplhaaDoorW.PrintLast Go.Proofs.YtjlhicpkceplhaaDoorW.PrintMore
open Go.ChangeMaps (open_string shut_string)
set_option linter.unusedVariables false
theorem own : ownKnob Tryd.prog.godebug = none := by kernel_rfl
theorem laidOut : laidOutB Tryd.prog = true := by kernel_rfl
theorem cells30 : Tryd.prog.cellsOf 30 = 3 := by kernel_rfl
theorem cells4 : Tryd.prog.cellsOf 4 = 1 := by kernel_rfl
theorem cells28 : Tryd.prog.cellsOf 28 = 1 := by kernel_rfl
theorem cells3 : Tryd.prog.cellsOf 3 = 1 := by kernel_rfl
theorem gTab0 : Tryd.prog.globalNamed "intrusion/checksum.shifts" = some 0 := by kernel_rfl
theorem gTabType0 : (Tryd.prog.globals[0]?).map (·.type) = some 57 := by kernel_rfl
theorem cellsA0 : Tryd.prog.cellsOf 57 = 8 := by kernel_rfl
theorem cellsE0 : Tryd.prog.cellsOf 44 = 1 := by kernel_rfl
theorem table0 {W : World} (h : laidMetH Tryd.prog Rows.checksumPseudoRow.laid W) : Lib.TabIs Tryd.prog W "intrusion/checksum.shifts" .u64 TAB0 :=
  Lib.tabIs_of_head (rest := []) gTab0 gTabType0 Tryd.underlying57 Tryd.underlying44 cellsE0 cellsA0 h
theorem laid_of {W : World} (h : laidMetH Tryd.prog Rows.checksumPseudoRow.laid W) : Laid W := fun j hj => by
  have h2 := (table0 h).cell gTab0 j hj
  first | exact h2 | (rw [h2]; rfl) | (rw [h2]; simp [List.getD])
set_option maxHeartbeats 1000000 in
set_option maxRecDepth 100000 in
/-- What the law's contract gives, for every argument and every world. -/
theorem contract (H : Type) (enc : TypeId × Value → H) (W : World) (base : Nat) (args : Array Value) (ds gs : List (DataW H)) (before : List MemPlace)
    (hval : ∀ (j : Nat) t v, Tryd.f5.params[j]? = some t → args[j]? = some v → Value.okWide Tryd.prog W .any base t v)
    (hW : DataW.Whole enc Tryd.prog Tryd.f5.params.toList Rows.checksumPseudoSpec.vars false W args.toList ds gs before)
    (hsz0 : (DataW.weightsEach Tryd.prog (Tryd.f5.params.toList ++ Rows.checksumPseudoSpec.plain.varTypes Tryd.prog) (ds ++ gs)).all (· ≤ reachBytes) = true) (hL : laidMetH Tryd.prog Rows.checksumPseudoRow.laid W) :
    Calls Tryd.prog 5 args W fun e W' => ∃ v, e = .returned v ∧ Rows.checksumPseudoSpec.post enc Tryd.prog Tryd.f5 false true false false W args v W' := by
  have hsz := hsz0
  have hW' := hW
  obtain ⟨p, q, hA0, hV, rfl, hfz, hnd⟩ := hW
  have hA : DataW.TrodAll enc Tryd.prog W 0 (fun _ => true) true Tryd.f5.params.toList args.toList ds p := hA0
  rw [Tryd.params5] at hA hval hsz
  obtain ⟨v0, vs0, d0, ds0, p0, q0, hargs, rfl, rfl, h0, r0⟩ := trodAll_cons hA
  obtain ⟨v1, vs1, d1, ds1, p1, q1, rfl, rfl, rfl, h1, r1⟩ := trodAll_cons r0
  obtain ⟨v2, vs2, d2, ds2, p2, q2, rfl, rfl, rfl, h2, r2⟩ := trodAll_cons r1
  obtain ⟨v3, vs3, d3, ds3, p3, q3, rfl, rfl, rfl, h3, r3⟩ := trodAll_cons r2
  obtain ⟨rfl, rfl, rfl⟩ := trodAll_nil r3
  obtain rfl : args = #[v0, v1, v2, v3] := by cases args; simp_all
  obtain ⟨rfl, rfl⟩ := trodVars_none hV
  have k0 := h0
  have lt0 : ∀ x ∈ p0, x.block < W.heap.size := by obtain ⟨m, hm⟩ := k0; exact DataW.trod_lt m _ _ _ hm
  obtain ⟨⟨cs0⟩, rfl, hz0⟩ := okWide_struct Tryd.underlying30 (hval 0 30 v0 rfl rfl)
  rw [cells30] at hz0
  obtain ⟨z0_0, z0_1, z0_2, rfl⟩ : ∃ z0_0 z0_1 z0_2 : Value, cs0 = [z0_0, z0_1, z0_2] := by
    match cs0, hz0 with
    | [z0_0, z0_1, z0_2], _ => exact ⟨z0_0, z0_1, z0_2, rfl⟩
  obtain ⟨fu0, hf0⟩ := h0
  replace hf0 : DataW.trod enc Tryd.prog W 0 (fun _ => true) true fu0 30 [z0_0, z0_1, z0_2] = some _ := hf0
  obtain ⟨m_1, F_2⟩ := fields_of Tryd.underlying30 hf0
  obtain ⟨y_3, e_4⟩ := field_at F_2 0 4 0 1 (by rfl) cells4
  replace e_4 : DataW.trod enc Tryd.prog W 0 (fun _ => true) true m_1 4 [z0_0] = some y_3 := e_4
  obtain ⟨a0_0, rfl⟩ := read_bool Tryd.underlying4 e_4
  obtain ⟨y_5, e_6⟩ := field_at F_2 1 28 1 1 (by rfl) cells28
  replace e_6 : DataW.trod enc Tryd.prog W 0 (fun _ => true) true m_1 28 [z0_1] = some y_5 := e_6
  obtain ⟨a0_1, rfl, w0_1⟩ := read_int Tryd.underlying28 e_6
  obtain ⟨y_7, e_8⟩ := field_at F_2 2 28 2 1 (by rfl) cells28
  replace e_8 : DataW.trod enc Tryd.prog W 0 (fun _ => true) true m_1 28 [z0_2] = some y_7 := e_8
  obtain ⟨a0_2, rfl, w0_2⟩ := read_int Tryd.underlying28 e_8
  have k1 := h1
  have lt1 : ∀ x ∈ p1, x.block < W.heap.size := by obtain ⟨m, hm⟩ := k1; exact DataW.trod_lt m _ _ _ hm
  obtain ⟨⟨cs1⟩, rfl, hz1⟩ := okWide_struct Tryd.underlying30 (hval 1 30 v1 rfl rfl)
  rw [cells30] at hz1
  obtain ⟨z1_0, z1_1, z1_2, rfl⟩ : ∃ z1_0 z1_1 z1_2 : Value, cs1 = [z1_0, z1_1, z1_2] := by
    match cs1, hz1 with
    | [z1_0, z1_1, z1_2], _ => exact ⟨z1_0, z1_1, z1_2, rfl⟩
  obtain ⟨fu1, hf1⟩ := h1
  replace hf1 : DataW.trod enc Tryd.prog W 0 (fun _ => true) true fu1 30 [z1_0, z1_1, z1_2] = some _ := hf1
  obtain ⟨m_9, F_10⟩ := fields_of Tryd.underlying30 hf1
  obtain ⟨y_11, e_12⟩ := field_at F_10 0 4 0 1 (by rfl) cells4
  replace e_12 : DataW.trod enc Tryd.prog W 0 (fun _ => true) true m_9 4 [z1_0] = some y_11 := e_12
  obtain ⟨a1_0, rfl⟩ := read_bool Tryd.underlying4 e_12
  obtain ⟨y_13, e_14⟩ := field_at F_10 1 28 1 1 (by rfl) cells28
  replace e_14 : DataW.trod enc Tryd.prog W 0 (fun _ => true) true m_9 28 [z1_1] = some y_13 := e_14
  obtain ⟨a1_1, rfl, w1_1⟩ := read_int Tryd.underlying28 e_14
  obtain ⟨y_15, e_16⟩ := field_at F_10 2 28 2 1 (by rfl) cells28
  replace e_16 : DataW.trod enc Tryd.prog W 0 (fun _ => true) true m_9 28 [z1_2] = some y_15 := e_16
  obtain ⟨a1_2, rfl, w1_2⟩ := read_int Tryd.underlying28 e_16
  obtain ⟨a2, rfl, rfl, rfl, w2⟩ := open_int Tryd.underlying3 (hval 2 3 v2 rfl rfl) h2
  obtain ⟨a3, rfl, rfl, rfl, w3⟩ := open_int Tryd.underlying3 (hval 3 3 v3 rfl rfl) h3
  clear hA0 hsz0 hsz
  obtain ⟨k, hk⟩ := Pure.ChecksumPseudo a0_0 a0_1 a0_2 a1_0 a1_1 a1_2 a2 a3 w0_1 w0_2 w1_1 w1_2 w2 w3
  refine (intrusionlaw02_ChecksumPseudo.calls k a0_0 a0_1 a0_2 a1_0 a1_1 a1_2 a2 a3 true W (laid_of hL) hk).mono fun e W' ⟨he, bel0⟩ => ?_
  have bel : Below W.heap.size W W' := bel0
  subst he
  exact ⟨_, rfl, _, _, _, [], _, [], hW', trodAll_mk1 (shut_bool Tryd.underlying4 _), (trodAll_cons_mk (Below.trod laidOut (by kernel_rfl) (of_decide_eq_true (by kernel_rfl)) k0 bel lt0) (trodAll_cons_mk (Below.trod laidOut (by kernel_rfl) (of_decide_eq_true (by kernel_rfl)) k1 bel lt1) (trodAll_cons_mk (shut_int Tryd.underlying3 w2) (trodAll_cons_mk (shut_int Tryd.underlying3 w3) trodAll_mk0)))), rfl, bel.frame _, fun h => by cases h⟩
/-- A world for the witness: the settled one, the table holding what its initialiser lays. -/
noncomputable def laidWorld (os : Os) : World :=
  { World.holding Tryd.prog os ⟨#[], #[], []⟩ with heap := (World.holding Tryd.prog os ⟨#[], #[], []⟩).heap.modify 0 fun
      | .cells _ t frozen => .cells #[.int .u64 56, .int .u64 48, .int .u64 40, .int .u64 32, .int .u64 24, .int .u64 16, .int .u64 8, .int .u64 0] t frozen
      | o => o }
theorem laid_met (os : Os) : laidMet Tryd.prog Rows.checksumPseudoRow.laid ((laidWorld os).forCall (fun _ _ => 0) ⟨#[], #[.agg #[.bool false, .int .u64 0, .int .u64 0], .agg #[.bool false, .int .u64 0, .int .u64 0], .int .i64 0, .int .i64 0], []⟩).memory :=
  laidMet_of_run' 8 (by kernel_rfl) (by kernel_rfl)
theorem reads (os : Os) {H : Type} (enc : TypeId × Value → H) : ∃ places, DataW.whole enc Tryd.prog ((laidWorld os).forCall (fun _ _ => 0) ⟨#[], #[.agg #[.bool false, .int .u64 0, .int .u64 0], .agg #[.bool false, .int .u64 0, .int .u64 0], .int .i64 0, .int .i64 0], []⟩).memory Tryd.f5.params.toList Rows.checksumPseudoSpec.vars false (#[.agg #[.bool false, .int .u64 0, .int .u64 0], .agg #[.bool false, .int .u64 0, .int .u64 0], .int .i64 0, .int .i64 0] : Array Value).toList 8 = some ([.agg [.lit (.bool false), .lit (.int .u64 0), .lit (.int .u64 0)], .agg [.lit (.bool false), .lit (.int .u64 0), .lit (.int .u64 0)], .lit (.int .i64 0), .lit (.int .i64 0)], [], places) :=
  ⟨[], by kernel_rfl⟩
set_option maxRecDepth 100000 in
theorem lifted (os : Os) (started : os.Started) (H : Type) (enc : TypeId × Value → H) (F : Stop.Interp) :
    ReturnsInHanded {} Tryd.checked os 5 .any ((OpenSpec.ofChange Rows.checksumPseudoSpec).preRow enc Tryd.prog Tryd.f5 Rows.checksumPseudoRow.domain false Rows.checksumPseudoRow.laid) (((OpenSpec.ofChange Rows.checksumPseudoSpec).at F).post enc Tryd.prog Tryd.f5 false true false false) := by
  obtain ⟨places, hx⟩ := reads os enc
  refine returnsInHanded_of_row (C := Tryd.checked) (s := OpenSpec.ofChange Rows.checksumPseudoSpec) own started (by kernel_rfl) Tryd.func5
    (witness_row_at (enc := enc) (C := Tryd.checked) false (laidWorld os) #[.agg #[.bool false, .int .u64 0, .int .u64 0], .agg #[.bool false, .int .u64 0, .int .u64 0], .int .i64 0, .int .i64 0] rfl (by kernel_rfl) (by kernel_rfl) (by kernel_rfl)
      (OpenSpec.preRow_of_cond 8 hx (by kernel_rfl) (fun k hk => by cases hk) (by kernel_rfl) (laid_met os))) ?_
  intro W base args ds gs before hval hW _ _ hsz hL _ _
  exact contract H enc W base args ds gs before hval hW hsz hL
theorem said : Rows.ChecksumPseudoSaid :=
  OpenClaim.holds_of_cond 5 Tryd.f5 rfl rfl rfl rfl rfl rfl rfl ⟨rfl, rfl, rfl, rfl, rfl⟩ rfl rfl rfl rfl rfl (by kernel_rfl) Tryd.func5 (by kernel_rfl)
    (of_decide_eq_true (by kernel_rfl)) (by unfold Func.isWrapper; first | (rw [if_pos (by decide +kernel)]; kernel_rfl) | (rw [if_neg (by decide +kernel)]; exact ⟨rfl, rfl⟩))
    (fun os started H enc _ F => by rw [OpenClaim.pre_eq_preRow]; exact lifted os started H enc F)
theorem plain (f : FuncId) (fn : Func) (hf : Tryd.pinned.checked.prog.funcNamed "intrusion/intrusionlaw02.ChecksumPseudo" = some f) (hfn : Tryd.pinned.checked.prog.funcs[f]? = some fn) :
    false = Tryd.pinned.checked.prog.looks [] ∧ ∀ (j : Nat) t, fn.params[j]? = some t → Tryd.pinned.checked.prog.wantsStandIn t = false := by
  obtain rfl : f = 5 := Option.some.inj ((show Tryd.prog.funcNamed "intrusion/intrusionlaw02.ChecksumPseudo" = some 5 by kernel_rfl).symm.trans hf) |>.symm
  obtain rfl : fn = Tryd.f5 := (Option.some.inj (Tryd.func5.symm.trans hfn)).symm
  refine ⟨by kernel_rfl, fun j t ht => ?_⟩
  rw [Tryd.params5] at ht
  have hm := Array.mem_of_getElem? ht
  have hm2 : t = 30 ∨ t = 30 ∨ t = 3 ∨ t = 3 := by simpa using hm
  rcases hm2 with rfl | rfl | rfl | rfl
  · exact (show Tryd.prog.wantsStandIn 30 = false by kernel_rfl)
  · exact (show Tryd.prog.wantsStandIn 30 = false by kernel_rfl)
  · exact (show Tryd.prog.wantsStandIn 3 = false by kernel_rfl)
  · exact (show Tryd.prog.wantsStandIn 3 = false by kernel_rfl)
/-- THE CARD. -/
theorem card : Rows.ChecksumPseudoCardSaid :=
  Claim7.holds_tied_plain_at .later [] _ _ _ _ said (fun _ h => by cases h) (by kernel_rfl) (fun _ h => by cases h) checksumPseudo_row_tie rfl ⟨rfl, rfl⟩ (by kernel_rfl) rfl plain (by kernel_rfl)
#print axioms card
end Go.Proofs.YtjlhicpkceplhaaDoor.checksumPseudo
namespace Go.Proofs.YtjlhicpkceplhaaDoor
/-- The statement, under a short name, for the claim. -/
theorem checksumPseudo_holds : Rows.ChecksumPseudoCardSaid := checksumPseudo.card
end Go.Proofs.YtjlhicpkceplhaaDoor
