/- The statement TunnelFrames holds: its row and its card, joined from its plain form and from the walks; no condition beyond the statement's own. Written by rows.py, a program of this claim's author. -/
import Derived.Test.YtocobalkikkhlaaDoorCards
import Derived.Test.YtocobalkikkhlaaDoorTie
import Derived.Test.YtocobalkikkhlaaDoorX13
import Derived.Test.YtocobalkikkhlaaDoorXR
import Derived.Test.YtocobalkikkhlaaDoorXDTunnelFrames
import Derived.Test.YtocobalkikkhlaaDoorPureTunnelFrames
import Derived.WalkKit
import Derived.ProofKit
import Derived.OpenShut
import Derived.ShutString
import Derived.ChangeOld
import Derived.Below
import Derived.SizedLaws
import Derived.Deep.DeepHandedRow
import Derived.Lib.LaidTab
namespace Go.Proofs.YtocobalkikkhlaaDoor.tunnelFrames
open Go.ChangeShapes Go.WideShapes Go.ChangeAt
open Go.RowKit Go.Proofs.YtocobalkikkhlaaDoor.X Go.Proofs.YtocobalkikkhlaaDoorW.PrintWords Go.Proofs.YtocobalkikkhlaaDoorW.PrintLast Go.Proofs.YtocobalkikkhlaaDoorW.PrintMore
open Go.ChangeMaps (open_string shut_string)
set_option linter.unusedVariables false
theorem own : ownKnob Tryd.prog.godebug = none := by kernel_rfl
theorem laidOut : laidOutB Tryd.prog = true := by kernel_rfl
theorem cells9 : Tryd.prog.cellsOf 9 = 1 := by kernel_rfl
theorem laid_tail {P : Program} {W : World} {n : String} {d : DataW Unit} {l : List (String × DataW Unit)} (h : laidMet P ((n, d) :: l) W) : laidMet P l W := by
  obtain ⟨ps, ⟨_, _, _, _, p, q, _, _, _, _, hl, rfl⟩, hnd, hrows⟩ := h
  exact ⟨q, hl, hnd.sublist (List.sublist_append_right _ _), fun b off hp => hrows b off (List.mem_append_right _ hp)⟩
theorem gTab1 : Tryd.prog.globalNamed "intrusion/checksum.shifts" = some 1 := by kernel_rfl
theorem gTabType1 : (Tryd.prog.globals[1]?).map (·.type) = some 150 := by kernel_rfl
theorem cellsA1 : Tryd.prog.cellsOf 150 = 8 := by kernel_rfl
theorem cellsE1 : Tryd.prog.cellsOf 51 = 1 := by kernel_rfl
theorem table1 {W : World} (h : laidMetH Tryd.prog Rows.tunnelFramesRow.laid W) : Lib.TabIs Tryd.prog W "intrusion/checksum.shifts" .u64 TAB1 :=
  Lib.tabIs_of_head (rest := [("intrusion/ethernet.tags", Lib.tabData .i64 TAB0)]) gTab1 gTabType1 Tryd.underlying150 Tryd.underlying51 cellsE1 cellsA1 h
theorem gTab0 : Tryd.prog.globalNamed "intrusion/ethernet.tags" = some 0 := by kernel_rfl
theorem gTabType0 : (Tryd.prog.globals[0]?).map (·.type) = some 93 := by kernel_rfl
theorem cellsA0 : Tryd.prog.cellsOf 93 = 2 := by kernel_rfl
theorem cellsE0 : Tryd.prog.cellsOf 3 = 1 := by kernel_rfl
theorem table0 {W : World} (h : laidMetH Tryd.prog Rows.tunnelFramesRow.laid W) : Lib.TabIs Tryd.prog W "intrusion/ethernet.tags" .i64 TAB0 :=
  Lib.tabIs_of_head (rest := []) gTab0 gTabType0 Tryd.underlying93 Tryd.underlying3 cellsE0 cellsA0 (laid_tail (n := "intrusion/checksum.shifts") (d := Lib.tabData .u64 TAB1) (l := [("intrusion/ethernet.tags", Lib.tabData .i64 TAB0)]) h)
theorem laid_of {W : World} (h : laidMetH Tryd.prog Rows.tunnelFramesRow.laid W) : Laid W := by
  refine ⟨fun j hj => ?_, fun j hj => ?_⟩
  · have h2 := (table0 h).cell gTab0 j hj
    first | exact h2 | (rw [h2]; rfl) | (rw [h2]; simp [List.getD])
  · have h2 := (table1 h).cell gTab1 j hj
    first | exact h2 | (rw [h2]; rfl) | (rw [h2]; simp [List.getD])
set_option maxHeartbeats 1000000 in
set_option maxRecDepth 100000 in
/-- What the law's contract gives, for every argument and every world. -/
theorem contract (H : Type) (enc : TypeId × Value → H) (W : World) (base : Nat) (args : Array Value) (ds gs : List (DataW H)) (before : List MemPlace)
    (hval : ∀ (j : Nat) t v, Tryd.f7.params[j]? = some t → args[j]? = some v → Value.okWide Tryd.prog W .any base t v)
    (hW : DataW.Whole enc Tryd.prog Tryd.f7.params.toList Rows.tunnelFramesSpec.vars false W args.toList ds gs before)
    (hsz0 : (DataW.weightsEach Tryd.prog (Tryd.f7.params.toList ++ Rows.tunnelFramesSpec.plain.varTypes Tryd.prog) (ds ++ gs)).all (· ≤ reachBytes) = true) (hL : laidMetH Tryd.prog Rows.tunnelFramesRow.laid W) :
    Calls Tryd.prog 7 args W fun e W' => ∃ v, e = .returned v ∧ Rows.tunnelFramesSpec.post enc Tryd.prog Tryd.f7 false true false false W args v W' := by
  have hsz := hsz0
  have hW' := hW
  obtain ⟨p, q, hA0, hV, rfl, hfz, hnd⟩ := hW
  have hA : DataW.TrodAll enc Tryd.prog W 0 (fun _ => true) true Tryd.f7.params.toList args.toList ds p := hA0
  rw [Tryd.params7] at hA hval hsz
  obtain ⟨v0, vs0, d0, ds0, p0, q0, hargs, rfl, rfl, h0, r0⟩ := trodAll_cons hA
  obtain ⟨rfl, rfl, rfl⟩ := trodAll_nil r0
  obtain rfl : args = #[v0] := by cases args; simp_all
  obtain ⟨rfl, rfl⟩ := trodVars_none hV
  obtain ⟨a0, rfl, rfl, rfl, y0⟩ := open_string Tryd.underlying9 (hval 0 9 v0 rfl rfl) h0
  have w0 : a0.size ≤ 140737488351232 := by
    have z := sized_string hsz (j := 0) (t := 9) rfl rfl
    rw [Array.length_toList] at z
    exact z
  clear hA0 hsz0 hsz
  obtain ⟨k, hk⟩ := Pure.TunnelFrames a0 w0
  refine (intrusionlaw17_TunnelFrames.calls k a0 true W (laid_of hL) hk).mono fun e W' ⟨he, bel0⟩ => ?_
  have bel : Below W.heap.size W W' := bel0
  subst he
  exact ⟨_, rfl, _, _, _, [], _, [], hW', trodAll_mk1 (shut_bool Tryd.underlying4 _), (trodAll_cons_mk (shut_string Tryd.underlying9 y0) trodAll_mk0), rfl, bel.frame _, fun h => by cases h⟩
/-- A world for the witness: the settled one, the listed variables holding what their initialisers lay. -/
noncomputable def laidWorld (os : Os) : World :=
  { World.holding Tryd.prog os ⟨#[], #[], []⟩ with heap := (((World.holding Tryd.prog os ⟨#[], #[], []⟩).heap).modify 1 (fun | .cells _ t frozen => .cells #[.int .u64 56, .int .u64 48, .int .u64 40, .int .u64 32, .int .u64 24, .int .u64 16, .int .u64 8, .int .u64 0] t frozen | o => o)).modify 0 (fun | .cells _ t frozen => .cells #[.int .i64 33024, .int .i64 34984] t frozen | o => o) }
theorem laid_met (os : Os) : laidMet Tryd.prog Rows.tunnelFramesRow.laid ((laidWorld os).forCall (fun _ _ => 0) ⟨#[], #[.string ByteArray.empty], []⟩).memory :=
  laidMet_of_run' 8 (by kernel_rfl) (by kernel_rfl)
theorem reads (os : Os) {H : Type} (enc : TypeId × Value → H) : ∃ places, DataW.whole enc Tryd.prog ((laidWorld os).forCall (fun _ _ => 0) ⟨#[], #[.string ByteArray.empty], []⟩).memory Tryd.f7.params.toList Rows.tunnelFramesSpec.vars false (#[.string ByteArray.empty] : Array Value).toList 8 = some ([.lit (.string [])], [], places) :=
  ⟨[], by kernel_rfl⟩
set_option maxRecDepth 100000 in
theorem lifted (os : Os) (started : os.Started) (H : Type) (enc : TypeId × Value → H) (F : Stop.Interp) :
    ReturnsInHanded {} Tryd.checked os 7 .any ((OpenSpec.ofChange Rows.tunnelFramesSpec).preRow enc Tryd.prog Tryd.f7 Rows.tunnelFramesRow.domain false Rows.tunnelFramesRow.laid) (((OpenSpec.ofChange Rows.tunnelFramesSpec).at F).post enc Tryd.prog Tryd.f7 false true false false) := by
  obtain ⟨places, hx⟩ := reads os enc
  refine returnsInHanded_of_row (C := Tryd.checked) (s := OpenSpec.ofChange Rows.tunnelFramesSpec) own started (by kernel_rfl) Tryd.func7
    (witness_row_at (enc := enc) (C := Tryd.checked) false (laidWorld os) #[.string ByteArray.empty] rfl (by kernel_rfl) (by kernel_rfl) (by kernel_rfl)
      (OpenSpec.preRow_of_cond 8 hx (by kernel_rfl) (fun k hk => by cases hk) (by kernel_rfl) (laid_met os))) ?_
  intro W base args ds gs before hval hW _ _ hsz hL _ _
  exact contract H enc W base args ds gs before hval hW hsz hL
theorem said : Rows.TunnelFramesSaid :=
  OpenClaim.holds_of_cond 7 Tryd.f7 rfl rfl rfl rfl rfl rfl rfl ⟨rfl, rfl, rfl, rfl, rfl⟩ rfl rfl rfl rfl rfl (by kernel_rfl) Tryd.func7 (by kernel_rfl)
    (of_decide_eq_true (by kernel_rfl)) (by unfold Func.isWrapper; first | (rw [if_pos (by decide +kernel)]; kernel_rfl) | (rw [if_neg (by decide +kernel)]; exact ⟨rfl, rfl⟩))
    (fun os started H enc _ F => by rw [OpenClaim.pre_eq_preRow]; exact lifted os started H enc F)
theorem plain (f : FuncId) (fn : Func) (hf : Tryd.pinned.checked.prog.funcNamed "intrusion/intrusionlaw17.TunnelFrames" = some f) (hfn : Tryd.pinned.checked.prog.funcs[f]? = some fn) :
    false = Tryd.pinned.checked.prog.looks [] ∧ ∀ (j : Nat) t, fn.params[j]? = some t → Tryd.pinned.checked.prog.wantsStandIn t = false := by
  obtain rfl : f = 7 := Option.some.inj ((show Tryd.prog.funcNamed "intrusion/intrusionlaw17.TunnelFrames" = some 7 by kernel_rfl).symm.trans hf) |>.symm
  obtain rfl : fn = Tryd.f7 := (Option.some.inj (Tryd.func7.symm.trans hfn)).symm
  refine ⟨by kernel_rfl, fun j t ht => ?_⟩
  rw [Tryd.params7] at ht
  have hm2 : t = 9 := by simpa using Array.mem_of_getElem? ht
  rcases hm2 with rfl
  · exact (show Tryd.prog.wantsStandIn 9 = false by kernel_rfl)
/-- THE CARD. -/
theorem card : Rows.TunnelFramesCardSaid :=
  Claim7.holds_tied_plain_at .later [] _ _ _ _ said (fun _ h => by cases h) (by kernel_rfl) (fun _ h => by cases h) tunnelFrames_row_tie rfl ⟨rfl, rfl⟩ (by kernel_rfl) rfl plain (by kernel_rfl)
#print axioms card
end Go.Proofs.YtocobalkikkhlaaDoor.tunnelFrames
namespace Go.Proofs.YtocobalkikkhlaaDoor
/-- The statement, under a short name, for the claim. -/
theorem tunnelFrames_holds : Rows.TunnelFramesCardSaid := tunnelFrames.card
end Go.Proofs.YtocobalkikkhlaaDoor
