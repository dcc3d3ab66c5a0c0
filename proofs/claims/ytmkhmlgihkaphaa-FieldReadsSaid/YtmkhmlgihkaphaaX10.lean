/- What the functions of the translation that this claim's statement reaches compute, each proved by its walk. Written by xprint.py, a program of this claim's author, run over the kit's printer. -/
import Derived.Test.YtmkhmlgihkaphaaX0
import Derived.Test.YtmkhmlgihkaphaaX2
import Derived.Test.YtmkhmlgihkaphaaX3
import Derived.Test.YtmkhmlgihkaphaaX5
import Derived.Test.YtmkhmlgihkaphaaX9
namespace Go.Proofs.Ytmkhmlgihkaphaa.X
open Go.RowKit Go.Proofs.YtmkhmlgihkaphaaW.PrintWords Go.Proofs.YtmkhmlgihkaphaaW.PrintLast Go.Proofs.YtmkhmlgihkaphaaW.PrintMore
attribute [local go_sem] max2_int min2_int max_two min_two max_three min_three max_four min_four   -- for this text's walks alone
set_option linter.unusedVariables false
set_option linter.unusedSimpArgs false

/-! ### intrusionlaw01_FieldReads: function 4 -/
mutual
def intrusionlaw01_FieldReads.j0 : Nat → ByteArray → List (S31) → Bool → Option (Bool)
  | 0, _, _, _ => none
  | k + 1, x0, x1, x15 => if x15 = true then ((intrusionlaw01_awake.f k).bind fun t184 => (some t184)) else ((field_NewReader.f x0).bind fun bt185 => ((intrusionref01_NewReader.f x0).bind fun bt189 => (intrusionlaw01_FieldReads.l0 k x1 0 bt185.1 bt185.2.1 bt185.2.2 bt189.1 bt189.2)))
def intrusionlaw01_FieldReads.l0 : Nat → List (S31) → Int → ByteArray → Int → Int → ByteArray → Int → Option (Bool)
  | 0, _, _, _, _, _, _, _ => none
  | k + 1, x1, x7, x189000, x189001, x189002, x192000, x192001 => if x7 < (x1.length : Int) then (if 0 ≤ x7 then (if ((rd_T31 x1 x7).f0) = 0 then ((field_Reader_Int.f k x189000 x189001 x189002 ((rd_T31 x1 x7).f1)).bind fun bt195 => ((intrusionref01_Reader_Int.f k x192000 x192001 ((rd_T31 x1 x7).f1)).bind fun bt200 => (if bt195.1 = bt200.1 then (intrusionlaw01_FieldReads.j2 k x1 x7 bt195.2.1 bt195.2.2.1 bt195.2.2.2 bt200.2.1 bt200.2.2) else (some false)))) else (if ((rd_T31 x1 x7).f0) = 1 then ((field_Reader_Take.f x189000 x189001 x189002 ((rd_T31 x1 x7).f1)).bind fun bt204 => ((intrusionref01_Reader_Take.f x192000 x192001 ((rd_T31 x1 x7).f1)).bind fun bt209 => (if bt204.1.toList = bt209.1.toList then (intrusionlaw01_FieldReads.j2 k x1 x7 bt204.2.1 bt204.2.2.1 bt204.2.2.2 bt209.2.1 bt209.2.2) else (some false)))) else (if ((rd_T31 x1 x7).f0) = 2 then ((field_Reader_Rest.f x189000 x189001 x189002).bind fun bt212 => ((intrusionref01_Reader_Rest.f x192000 x192001).bind fun bt216 => (if bt212.1.toList = bt216.1.toList then (intrusionlaw01_FieldReads.j2 k x1 x7 bt212.2.1 bt212.2.2.1 bt212.2.2.2 bt216.2.1 bt216.2.2) else (some false)))) else (intrusionlaw01_FieldReads.j2 k x1 x7 x189000 x189001 x189002 x192000 x192001)))) else (none)) else ((intrusionlaw01_awake.f k).bind fun t192 => (some t192))
def intrusionlaw01_FieldReads.j2 : Nat → List (S31) → Int → ByteArray → Int → Int → ByteArray → Int → Option (Bool)
  | 0, _, _, _, _, _, _, _ => none
  | k + 1, x1, x7, x189000, x189001, x189002, x192000, x192001 => (field_Reader_Left.f x189000 x189001 x189002).bind fun bt219 => ((intrusionref01_Reader_Left.f x192000 x192001).bind fun bt223 => (if bt219.1 = bt223.1 then ((field_Reader_Err.f bt219.2.1 bt219.2.2.1 bt219.2.2.2).bind fun bt226 => ((intrusionref01_Reader_Err.f bt223.2.1 bt223.2.2).bind fun bt230 => (if bt226.1 = bt230.1 then (intrusionlaw01_FieldReads.l0 k x1 (wrap64 (x7 + 1)) bt226.2.1 bt226.2.2.1 bt226.2.2.2 bt230.2.1 bt230.2.2) else (some false)))) else (some false)))
end
def intrusionlaw01_FieldReads.f (k : Nat) (a0 : ByteArray) (l1 : List (S31)) : Option (Bool) := if (a0.size : Int) > 200 then (intrusionlaw01_FieldReads.j0 k a0 l1 true) else (intrusionlaw01_FieldReads.j0 k a0 l1 (decide ((l1.length : Int) > 60)))
theorem intrusionlaw01_FieldReads.mono_l : ∀ k, (∀ y0 y1 y2, LeO (intrusionlaw01_FieldReads.j0 k y0 y1 y2) (intrusionlaw01_FieldReads.j0 (k + 1) y0 y1 y2)) ∧ (∀ y0 y1 y2 y3 y4 y5 y6, LeO (intrusionlaw01_FieldReads.l0 k y0 y1 y2 y3 y4 y5 y6) (intrusionlaw01_FieldReads.l0 (k + 1) y0 y1 y2 y3 y4 y5 y6)) ∧ (∀ y0 y1 y2 y3 y4 y5 y6, LeO (intrusionlaw01_FieldReads.j2 k y0 y1 y2 y3 y4 y5 y6) (intrusionlaw01_FieldReads.j2 (k + 1) y0 y1 y2 y3 y4 y5 y6))
  | 0 => ⟨fun _ _ _ r h => by simp [intrusionlaw01_FieldReads.j0] at h, fun _ _ _ _ _ _ _ r h => by simp [intrusionlaw01_FieldReads.l0] at h, fun _ _ _ _ _ _ _ r h => by simp [intrusionlaw01_FieldReads.j2] at h⟩
  | k + 1 => by
    obtain ⟨ih0, ih1, ih2⟩ := intrusionlaw01_FieldReads.mono_l k
    refine ⟨?_, ?_, ?_⟩
    · intro y0 y1 y2
      unfold intrusionlaw01_FieldReads.j0
      repeat' first
      | (with_reducible exact ih0 _ _ _)
      | (with_reducible exact ih1 _ _ _ _ _ _ _)
      | (with_reducible exact ih2 _ _ _ _ _ _ _)
      | (with_reducible exact field_Reader_Int.mono _ _ _ _ _)
      | (with_reducible exact intrusionlaw01_awake.mono _)
      | (with_reducible exact intrusionref01_Reader_Int.mono _ _ _ _)
      | (with_reducible exact LeO.refl _)
      | (with_reducible exact LeO.none _)
      | (with_reducible refine LeO.ite ?_ ?_)
      | (with_reducible refine LeO.bind ?_ (fun _ => ?_))
      | exact ih0 _ _ _
      | exact ih1 _ _ _ _ _ _ _
      | exact ih2 _ _ _ _ _ _ _
      | exact field_Reader_Int.mono _ _ _ _ _
      | exact intrusionlaw01_awake.mono _
      | exact intrusionref01_Reader_Int.mono _ _ _ _
      | exact LeO.none _
      | refine LeO.ite ?_ ?_
      | refine LeO.bind ?_ (fun _ => ?_)
    · intro y0 y1 y2 y3 y4 y5 y6
      unfold intrusionlaw01_FieldReads.l0
      repeat' first
      | (with_reducible exact ih0 _ _ _)
      | (with_reducible exact ih1 _ _ _ _ _ _ _)
      | (with_reducible exact ih2 _ _ _ _ _ _ _)
      | (with_reducible exact field_Reader_Int.mono _ _ _ _ _)
      | (with_reducible exact intrusionlaw01_awake.mono _)
      | (with_reducible exact intrusionref01_Reader_Int.mono _ _ _ _)
      | (with_reducible exact LeO.refl _)
      | (with_reducible exact LeO.none _)
      | (with_reducible refine LeO.ite ?_ ?_)
      | (with_reducible refine LeO.bind ?_ (fun _ => ?_))
      | exact ih0 _ _ _
      | exact ih1 _ _ _ _ _ _ _
      | exact ih2 _ _ _ _ _ _ _
      | exact field_Reader_Int.mono _ _ _ _ _
      | exact intrusionlaw01_awake.mono _
      | exact intrusionref01_Reader_Int.mono _ _ _ _
      | exact LeO.none _
      | refine LeO.ite ?_ ?_
      | refine LeO.bind ?_ (fun _ => ?_)
    · intro y0 y1 y2 y3 y4 y5 y6
      unfold intrusionlaw01_FieldReads.j2
      repeat' first
      | (with_reducible exact ih0 _ _ _)
      | (with_reducible exact ih1 _ _ _ _ _ _ _)
      | (with_reducible exact ih2 _ _ _ _ _ _ _)
      | (with_reducible exact field_Reader_Int.mono _ _ _ _ _)
      | (with_reducible exact intrusionlaw01_awake.mono _)
      | (with_reducible exact intrusionref01_Reader_Int.mono _ _ _ _)
      | (with_reducible exact LeO.refl _)
      | (with_reducible exact LeO.none _)
      | (with_reducible refine LeO.ite ?_ ?_)
      | (with_reducible refine LeO.bind ?_ (fun _ => ?_))
      | exact ih0 _ _ _
      | exact ih1 _ _ _ _ _ _ _
      | exact ih2 _ _ _ _ _ _ _
      | exact field_Reader_Int.mono _ _ _ _ _
      | exact intrusionlaw01_awake.mono _
      | exact intrusionref01_Reader_Int.mono _ _ _ _
      | exact LeO.none _
      | refine LeO.ite ?_ ?_
      | refine LeO.bind ?_ (fun _ => ?_)
theorem intrusionlaw01_FieldReads.mono : ∀ a0 a1 k, LeO (intrusionlaw01_FieldReads.f k a0 a1) (intrusionlaw01_FieldReads.f (k + 1) a0 a1) := by
  intro a0 a1 k
  obtain ⟨ih0, ih1, ih2⟩ := intrusionlaw01_FieldReads.mono_l k
  unfold intrusionlaw01_FieldReads.f
  repeat' first
      | (with_reducible exact ih0 _ _ _)
      | (with_reducible exact ih1 _ _ _ _ _ _ _)
      | (with_reducible exact ih2 _ _ _ _ _ _ _)
      | (with_reducible exact field_Reader_Int.mono _ _ _ _ _)
      | (with_reducible exact intrusionlaw01_awake.mono _)
      | (with_reducible exact intrusionref01_Reader_Int.mono _ _ _ _)
      | (with_reducible exact LeO.refl _)
      | (with_reducible exact LeO.none _)
      | (with_reducible refine LeO.ite ?_ ?_)
      | (with_reducible refine LeO.bind ?_ (fun _ => ?_))
      | exact ih0 _ _ _
      | exact ih1 _ _ _ _ _ _ _
      | exact ih2 _ _ _ _ _ _ _
      | exact field_Reader_Int.mono _ _ _ _ _
      | exact intrusionlaw01_awake.mono _
      | exact intrusionref01_Reader_Int.mono _ _ _ _
      | exact LeO.none _
      | refine LeO.ite ?_ ?_
      | refine LeO.bind ?_ (fun _ => ?_)
def intrusionlaw01_FieldReads.T12 : Bool × List (List Nat × List Nat) := (true, [([], []), ([], []), ([], []), ([1, 2], [1, 2]), ([3], [3]), ([4], [4]), ([0, 5], [0, 5]), ([], []), ([], []), ([], []), ([8, 9], [8, 9]), ([10], [10]), ([11], [11]), ([7, 12, 6], [7, 12]), ([6, 13], [6, 13])])
def intrusionlaw01_FieldReads.B12 : List Nat := [0, 0, 0, 6, 14, 30, 63, 0, 0, 0, 768, 1792, 3840, 8191, 16383]
theorem intrusionlaw01_FieldReads.tab12 : rtab .any (opsOf Try.f4 12) = intrusionlaw01_FieldReads.T12 := by kernel_rfl
theorem intrusionlaw01_FieldReads.bits12 : waitsOk intrusionlaw01_FieldReads.T12.2 intrusionlaw01_FieldReads.B12 = true := by kernel_rfl
def intrusionlaw01_FieldReads.T15 : Bool × List (List Nat × List Nat) := (true, [([], []), ([], []), ([], []), ([1, 2], [1, 2]), ([3], [3]), ([4], [4]), ([0, 5], [0, 5]), ([], []), ([], []), ([], []), ([8, 9], [8, 9]), ([10], [10]), ([11], [11]), ([7, 12, 6], [7, 12]), ([6, 13], [6, 13])])
def intrusionlaw01_FieldReads.B15 : List Nat := [0, 0, 0, 6, 14, 30, 63, 0, 0, 0, 768, 1792, 3840, 8191, 16383]
theorem intrusionlaw01_FieldReads.tab15 : rtab .any (opsOf Try.f4 15) = intrusionlaw01_FieldReads.T15 := by kernel_rfl
theorem intrusionlaw01_FieldReads.bits15 : waitsOk intrusionlaw01_FieldReads.T15.2 intrusionlaw01_FieldReads.B15 = true := by kernel_rfl
set_option maxHeartbeats 8000000 in
set_option maxRecDepth 100000 in
theorem intrusionlaw01_FieldReads.calls (k : Nat) (a0 : ByteArray) (A1 : Option Addr) (c1 : Nat) (l1 : List (S31)) (r : Bool) (w : World) (hr1 : Kd.C k31 w A1 l1.length l1) (hc1 : l1.length ≤ c1) (h : intrusionlaw01_FieldReads.f k a0 l1 = some r) :
    Calls Try.prog 4 #[.string a0, .slice A1 l1.length c1] w fun e w' => e = .returned (.bool r) ∧ Below w.heap.size w w' := by
  have HR1 := Aside0.mk hr1
  have HC1 := Aside0.mk hc1
  clear hr1 hc1
  have HB := Aside0.mk (Below.refl w.heap.size w)
  have H : (if (a0.size : Int) > 200 then (intrusionlaw01_FieldReads.j0 k a0 l1 true) else (intrusionlaw01_FieldReads.j0 k a0 l1 (decide ((l1.length : Int) > 60)))) = some r := h
  clear h
  have HC3 := Aside0.mk H
  clear H
  go_enter Try.func4, Try.ntmps4
  go_upto_region 1 with (fail)
  go_cut [15] (fun v15 wc => ∃ (kq : Nat) (x15_2 : Bool), v15 = .bool x15_2 ∧ Aside0 (intrusionlaw01_FieldReads.j0 kq a0 l1 x15_2 = some r) ∧ Aside0 (kq ≤ k) ∧ Aside0 (Below w.heap.size w wc))
  case first =>
    have H := HC3.out
    clear HC3
    by_cases c4 : (a0.size : Int) > 200
    · rw [if_pos c4] at H
      have c4b0 : decide (200 < (a0.size : Int)) = true := decide_eq_true c4
      have c4b1 : decide (200 < a0.size) = true := decide_eq_true (by omega)
      clear c4
      (first | rw [c4b0] | (simp only [i64_w, i32_w]; rw [c4b0]) | skip)
      have H' := Aside0.mk H
      clear H
      go_wp2
      go_meet
      case rel => exact ⟨_, (true), (by first | rfl | (simp; done) | (simp [*]; done)), H', ⟨by first | omega | exact Nat.le_refl _⟩, ⟨by repeat (first | (with_reducible first | exact HB.out | apply below_alloc | apply pw_below_drewN | apply below_drew1) | exact HB.out)⟩⟩
    · rw [if_neg c4] at H
      have c4b0 : decide (200 < (a0.size : Int)) = false := decide_eq_false c4
      have c4b1 : decide (200 < a0.size) = false := decide_eq_false (by omega)
      clear c4
      (first | rw [c4b0] | (simp only [i64_w, i32_w]; rw [c4b0]) | skip)
      have H' := Aside0.mk H
      clear H
      go_wp2
      go_meet
      case rel => exact ⟨_, (decide ((l1.length : Int) > 60)), (by first | rfl | (simp; done) | (simp [*]; done)), H', ⟨by first | omega | exact Nat.le_refl _⟩, ⟨by repeat (first | (with_reducible first | exact HB.out | apply below_alloc | apply pw_below_drewN | apply below_drew1) | exact HB.out)⟩⟩
  case rest =>
    clear HC3
    try clear c1
    try clear p2
    try clear c4
    try clear c4b0
    try clear c4b1
    obtain ⟨kq, x15_2, rfl, HA, HJ2, HB⟩ := hcut
    cases kq with
    | zero => exact absurd HA.out (by simp [intrusionlaw01_FieldReads.j0])
    | succ kj2 =>
      have H := HA.out
      clear HA
      simp only [intrusionlaw01_FieldReads.j0] at H
      by_cases c5 : x15_2 = true
      · subst c5
        have H1 : ((intrusionlaw01_awake.f kj2).bind fun t184 => (some t184)) = some r := by rw [if_pos rfl] at H; exact H
        clear H
        have H := H1
        clear H1
        replace H := Option.bind_eq_some_iff.mp H
        obtain ⟨t184, A60, H⟩ := H
        replace H : (some t184) = some r := H
        have A6 := Aside0.mk A60
        clear A60
        obtain rfl := Option.some.inj H
        go_wp2_with (first | ((with_reducible refine gate_callee (f := 12) rfl ?_); refine goesL_ (some 16) rfl rfl Try.func12 (by kernel_rfl) rfl #[] rfl (by (try simp only [List.map_toArray, List.map_cons, List.map_nil]); first | done | rfl | (simp only [List.length_drop, List.length_take]; rfl)) ?_; (with_reducible refine (intrusionlaw01_awake.calls kj2  t184 _ A6.out).mono ?_); rintro e w7 ⟨rfl, hb⟩; refine ⟨_, rfl, ?_⟩; have n0_ := Aside0.mk (below_step (by repeat (first | (with_reducible first | exact HB.out | apply below_alloc | apply pw_below_drewN | apply below_drew1) | exact HB.out)) hb); clear HB; have HB := n0_; clear n0_; (try clear hb); (try clear hb2); (try clear hk); (try clear hi)))
        go_ret
        exact ⟨by first | rfl | (simp [errW_none, errW_some] <;> rfl) | (simp [*, errW_none, errW_some] <;> rfl), by repeat (first | (with_reducible first | exact HB.out | apply below_alloc | apply pw_below_drewN | apply below_drew1) | exact HB.out)⟩
      · replace c5 := Bool.eq_false_iff.mpr c5
        subst c5
        have H1 : ((field_NewReader.f a0).bind fun bt185 => ((intrusionref01_NewReader.f a0).bind fun bt189 => (intrusionlaw01_FieldReads.l0 kj2 l1 0 bt185.1 bt185.2.1 bt185.2.2 bt189.1 bt189.2))) = some r := by rw [if_neg (show ¬ (false = true) by decide)] at H; exact H
        clear H
        have H := H1
        clear H1
        replace H := Option.bind_eq_some_iff.mp H
        obtain ⟨⟨t185, t186, t187⟩, A80, H⟩ := H
        replace H : ((intrusionref01_NewReader.f a0).bind fun bt189 => (intrusionlaw01_FieldReads.l0 kj2 l1 0 t185 t186 t187 bt189.1 bt189.2)) = some r := H
        have A8 := Aside0.mk A80
        clear A80
        replace H := Option.bind_eq_some_iff.mp H
        obtain ⟨⟨t189, t190⟩, A90, H⟩ := H
        replace H : (intrusionlaw01_FieldReads.l0 kj2 l1 0 t185 t186 t187 t189 t190) = some r := H
        have A9 := Aside0.mk A90
        clear A90
        have H' := Aside0.mk H
        clear H
        go_wp2_with (first | ((with_reducible refine gate_callee (f := 13) rfl ?_); refine goesL_ (some 18) rfl rfl Try.func13 (by kernel_rfl) rfl #[.string a0] rfl (by (try simp only [List.map_toArray, List.map_cons, List.map_nil]); first | done | rfl | (simp only [List.length_drop, List.length_take]; rfl)) ?_; (with_reducible refine (field_NewReader.calls a0 t185 t186 t187 w _ ?side1 A8.out).mono ?_); (case side1 => repeat (first | (with_reducible first | exact HB.out | apply below_alloc | apply pw_below_drewN | apply below_drew1) | exact HB.out)); rintro e w10 ⟨g188, rfl, hi, hb, hb2⟩; refine ⟨_, rfl, ?_⟩; have n0_ := Aside0.mk (hb); have n1_ := Aside0.mk (hi); clear HB; have HB := n0_; have HI188 := n1_; clear n0_ n1_; (try clear hb); (try clear hb2); (try clear hk); (try clear hi)) | ((with_reducible refine gate_callee (f := 14) rfl ?_); refine goesL_ (some 22) rfl rfl Try.func14 (by kernel_rfl) rfl #[.string a0] rfl (by (try simp only [List.map_toArray, List.map_cons, List.map_nil]); first | done | rfl | (simp only [List.length_drop, List.length_take]; rfl)) ?_; (with_reducible refine (intrusionref01_NewReader.calls a0 t189 t190 w _ ?side1 A9.out).mono ?_); (case side1 => repeat (first | (with_reducible first | exact HB.out | apply below_alloc | apply pw_below_drewN | apply below_drew1 | refine below_set ?_ (IsS53.ge HI188.out)) | exact HB.out)); rintro e w11 ⟨g191, rfl, hi, hb, hb2⟩; refine ⟨_, rfl, ?_⟩; have n0_ := Aside0.mk (IsS53.below (by repeat (first | (with_reducible first | exact HI188.out | apply IsS53.alloc | apply IsS53.drewN | apply IsS53.drew | apply IsS53.set_0 | apply IsS53.set_1 | apply IsS53.set_2) | exact HI188.out)) hb2); have n1_ := Aside0.mk (hb); have n2_ := Aside0.mk (hi); clear HI188; clear HB; have HI188 := n0_; have HB := n1_; have HI191 := n2_; clear n0_ n1_ n2_; (try clear hb); (try clear hb2); (try clear hk); (try clear hi)))
        go_loopg [7] kj2 (fun kq v7 w' => ∃ (x7_2 : Int) (x189000_2 : ByteArray) (x189001_2 : Int) (x189002_2 : Int) (x192000_2 : ByteArray) (x192001_2 : Int), v7 = .int .i64 x7_2 ∧ Aside0 (intrusionlaw01_FieldReads.l0 kq l1 x7_2 x189000_2 x189001_2 x189002_2 x192000_2 x192001_2 = some r) ∧ Aside0 (kq ≤ kj2) ∧ Aside0 (IsS53 w w' g188 x189000_2 x189001_2 x189002_2) ∧ Aside0 (IsS55 w w' g191 x192000_2 x192001_2) ∧ Aside0 (Below w.heap.size w w'))
        case atStart => exact ⟨(0), (t185), (t186), (t187), (t189), (t190), (by first | rfl | (simp; done) | (simp [*]; done)), H', ⟨Nat.le_refl _⟩, ⟨by repeat (first | (with_reducible first | exact HI188.out | apply IsS53.alloc | apply IsS53.drewN | apply IsS53.drew | apply IsS53.set_0 | apply IsS53.set_1 | apply IsS53.set_2) | exact HI188.out)⟩, ⟨by repeat (first | (with_reducible first | exact HI191.out | apply IsS55.alloc | apply IsS55.drewN | apply IsS55.drew | apply IsS55.set_0 | apply IsS55.set_1) | exact HI191.out)⟩, ⟨by repeat (first | (with_reducible first | exact HB.out | apply below_alloc | apply pw_below_drewN | apply below_drew1 | refine below_set ?_ (IsS53.ge HI188.out) | refine below_set ?_ (IsS55.ge HI191.out)) | exact HB.out)⟩⟩
        case round =>
          clear H'
          try clear c1
          try clear p2
          try clear c4
          try clear c4b0
          try clear c4b1
          try clear c5
          try clear p2
          obtain ⟨x7_2, x189000_2, x189001_2, x189002_2, x192000_2, x192001_2, rfl, HA, HK2, HI188, HI191, HB⟩ := hrel
          cases gk with
          | zero => exact absurd HA.out (by simp [intrusionlaw01_FieldReads.l0])
          | succ k2 =>
            have H := HA.out
            clear HA
            simp only [intrusionlaw01_FieldReads.l0] at H
            by_cases c12 : x7_2 < (l1.length : Int)
            · rw [if_pos c12] at H
              have c12b0 : decide (x7_2 < (l1.length : Int)) = true := decide_eq_true c12
              clear c12
              by_cases c13 : 0 ≤ x7_2
              · rw [if_pos c13] at H
                have c13b0 : decide (0 ≤ x7_2) = true := decide_eq_true c13
                clear c13
                have HC14 := Aside0.mk H
                clear H
                have p193 : 0 ≤ (x7_2 : Int) := of_decide_eq_true (by first | (with_reducible assumption) | assumption)
                have q193 : x7_2 < (l1.length : Int) := of_decide_eq_true (by first | (with_reducible assumption) | assumption)
                obtain ⟨ad193, e193, hx193_0, hx193_1⟩ := at_T31 HR1.out x7_2 p193 q193
                cases e193
                replace hx193_0 := (HB.out.cell (World.block_lt_of_cell? w _ hx193_0)).trans hx193_0
                replace hx193_1 := (HB.out.cell (World.block_lt_of_cell? w _ hx193_1)).trans hx193_1
                replace p193 := eq_true p193
                replace q193 := eq_true q193
                go_upto_block 2 with (fail)
                go_cut [] (fun wc => ∃ (kq : Nat) (x189000_13 : ByteArray) (x189001_13 : Int) (x189002_13 : Int) (x192000_13 : ByteArray) (x192001_13 : Int), Aside0 (intrusionlaw01_FieldReads.j2 kq l1 x7_2 x189000_13 x189001_13 x189002_13 x192000_13 x192001_13 = some r) ∧ Aside0 (kq ≤ k2) ∧ Aside0 (IsS53 w wc g188 x189000_13 x189001_13 x189002_13) ∧ Aside0 (IsS55 w wc g191 x192000_13 x192001_13) ∧ Aside0 (Below w.heap.size w wc))
                case first =>
                  have H := HC14.out
                  clear HC14
                  by_cases c15 : ((rd_T31 l1 x7_2).f0) = 0
                  · rw [if_pos c15] at H
                    have c15b0 : (((rd_T31 l1 x7_2).f0) == 0) = true := beq_iff_eq.mpr c15
                    have c15b1 : (((rd_T31 l1 x7_2).f0) != 0) = false := bne_eq_false_iff_eq.mpr c15
                    clear c15
                    (first | rw [c15b0] | (simp only [i64_w, i32_w]; rw [c15b0]) | skip)
                    replace H := Option.bind_eq_some_iff.mp H
                    obtain ⟨⟨t195, t196, t197, t198⟩, A160, H⟩ := H
                    replace H : ((intrusionref01_Reader_Int.f k2 x192000_2 x192001_2 ((rd_T31 l1 x7_2).f1)).bind fun bt200 => (if t195 = bt200.1 then (intrusionlaw01_FieldReads.j2 k2 l1 x7_2 t196 t197 t198 bt200.2.1 bt200.2.2) else (some false))) = some r := H
                    have A16 := Aside0.mk A160
                    clear A160
                    replace H := Option.bind_eq_some_iff.mp H
                    obtain ⟨⟨t200, t201, t202⟩, A170, H⟩ := H
                    replace H : (if t195 = t200 then (intrusionlaw01_FieldReads.j2 k2 l1 x7_2 t196 t197 t198 t201 t202) else (some false)) = some r := H
                    have A17 := Aside0.mk A170
                    clear A170
                    by_cases c18 : t195 = t200
                    · rw [if_pos c18] at H
                      have c18b0 : (t195 == t200) = true := beq_iff_eq.mpr c18
                      have c18b1 : (t195 != t200) = false := bne_eq_false_iff_eq.mpr c18
                      clear c18
                      have H' := Aside0.mk H
                      clear H
                      try go_wp2
                      have n0_ := Aside0.mk (IsS53.drew HI188.out)
                      have n1_ := Aside0.mk (IsS55.drew HI191.out)
                      have n2_ := Aside0.mk (below_drew1 HB.out)
                      clear HI188
                      clear HI191
                      clear HB
                      have HI188 := n0_
                      have HI191 := n1_
                      have HB := n2_
                      clear n0_ n1_ n2_
                      have p194 : 0 ≤ (x7_2 : Int) := of_decide_eq_true (by first | (with_reducible assumption) | assumption)
                      have q194 : x7_2 < (l1.length : Int) := of_decide_eq_true (by first | (with_reducible assumption) | assumption)
                      obtain ⟨ad194, e194, hx194_0, hx194_1⟩ := at_T31 HR1.out x7_2 p194 q194
                      have hw194_1 := hx194_1
                      have hw194_0 := hx194_0
                      obtain rfl : ad193 = ad194 := (by injection e194)
                      replace hx194_0 := (HB.out.cell (World.block_lt_of_cell? w _ hx194_0)).trans hx194_0
                      replace hx194_1 := (HB.out.cell (World.block_lt_of_cell? w _ hx194_1)).trans hx194_1
                      replace p194 := eq_true p194
                      replace q194 := eq_true q194
                      have p199 : 0 ≤ (x7_2 : Int) := of_decide_eq_true (by first | (with_reducible assumption) | assumption)
                      have q199 : x7_2 < (l1.length : Int) := of_decide_eq_true (by first | (with_reducible assumption) | assumption)
                      obtain ⟨ad199, e199, hx199_0, hx199_1⟩ := at_T31 HR1.out x7_2 p199 q199
                      have hw199_1 := hx199_1
                      have hw199_0 := hx199_0
                      obtain rfl : ad193 = ad199 := (by injection e199)
                      replace hx199_0 := (HB.out.cell (World.block_lt_of_cell? w _ hx199_0)).trans hx199_0
                      replace hx199_1 := (HB.out.cell (World.block_lt_of_cell? w _ hx199_1)).trans hx199_1
                      replace p199 := eq_true p199
                      replace q199 := eq_true q199
                      refine start_ (n := 15) (S := fun w' => w'.cell? (ad193.add ((x7_2).toNat * 2)) = some (.int .i64 ((rd_T31 l1 x7_2).f0)) ∧ w'.cell? ⟨(ad193.add ((x7_2).toNat * 2)).block, (ad193.add ((x7_2).toNat * 2)).off + 1, none⟩ = some (.int .i64 ((rd_T31 l1 x7_2).f1)) ∧ w'.cell? (ad193.add ((x7_2).toNat * 2)) = some (.int .i64 ((rd_T31 l1 x7_2).f0)) ∧ w'.cell? ⟨(ad193.add ((x7_2).toNat * 2)).block, (ad193.add ((x7_2).toNat * 2)).off + 1, none⟩ = some (.int .i64 ((rd_T31 l1 x7_2).f1))) (ds := []) #[false, false, false, false, false, false, false, false, false, false, false, false, false, false, false] (by kernel_rfl) rfl rfl ⟨((HB.out.cell (World.block_lt_of_cell? w _ hw194_0)).trans hw194_0), ((HB.out.cell (World.block_lt_of_cell? w _ hw194_1)).trans hw194_1), ((HB.out.cell (World.block_lt_of_cell? w _ hw199_0)).trans hw199_0), ((HB.out.cell (World.block_lt_of_cell? w _ hw199_1)).trans hw199_1)⟩ (fun hHeld => ?_); refine with_tabW intrusionlaw01_FieldReads.tab12 intrusionlaw01_FieldReads.bits12 (fun HT_ HW_ => ?_)
                      generalize wr.drew = w19 at HI188 HI191 HB hx194_0 hx194_1 hx199_0 hx199_1 hHeld ⊢
                      refine pure_ (i := 0) (N := some 36) (v := ?_) (a' := ?_) #[true, false, false, false, false, false, false, false, false, false, false, false, false, false, false] rfl rfl (any_of HT_.out (by kernel_rfl)) (fun _ _ _ h => h) (Or.inl ⟨by rfl, ?_⟩) ?_ ?_
                      rotate_left
                      · intro w'
                        go_simp
                        with_reducible rfl
                      rotate_left
                      · simp only [Act.put, List.setIfInBounds_toArray, List.set_cons_zero, List.set_cons_succ, i64_w, i32_w]
                        rfl
                      refine pure_ (i := 1) (N := some 37) (v := ?_) (a' := ?_) #[true, true, false, false, false, false, false, false, false, false, false, false, false, false, false] rfl rfl (any_of HT_.out (by kernel_rfl)) (fun _ _ _ h => h) (Or.inl ⟨by rfl, ?_⟩) ?_ ?_
                      rotate_left
                      · intro w'
                        go_simp
                        with_reducible rfl
                      rotate_left
                      · simp only [Act.put, List.setIfInBounds_toArray, List.set_cons_zero, List.set_cons_succ, i64_w, i32_w]
                        rfl
                      refine pure_ (i := 2) (N := some 38) (v := ?_) (a' := ?_) #[true, true, true, false, false, false, false, false, false, false, false, false, false, false, false] rfl rfl (any_of HT_.out (by kernel_rfl)) (fun _ _ _ h => h) (Or.inl ⟨by rfl, ?_⟩) ?_ ?_
                      rotate_left
                      · intro w'
                        go_simp
                        with_reducible rfl
                      rotate_left
                      · simp only [Act.put, List.setIfInBounds_toArray, List.set_cons_zero, List.set_cons_succ, i64_w, i32_w]
                        rfl
                      refine pure_ (i := 3) (N := some 39) (v := ?_) (a' := ?_) #[true, true, true, true, false, false, false, false, false, false, false, false, false, false, false] rfl rfl (any_of HT_.out (by kernel_rfl)) (fun _ _ _ h => h) (Or.inl ⟨by rfl, ?_⟩) ?_ ?_
                      rotate_left
                      · intro w'
                        go_simp
                        with_reducible rfl
                      rotate_left
                      · simp only [Act.put, List.setIfInBounds_toArray, List.set_cons_zero, List.set_cons_succ, i64_w, i32_w]
                        rfl
                      refine pure_ (i := 4) (N := some 40) (v := ?_) (a' := ?_) #[true, true, true, true, true, false, false, false, false, false, false, false, false, false, false] rfl rfl (any_of HT_.out (by kernel_rfl)) (fun _ _ _ h => h) (Or.inl ⟨by rfl, ?_⟩) ?_ ?_
                      rotate_left
                      · intro w'
                        go_simp
                        with_reducible rfl
                      rotate_left
                      · simp only [Act.put, List.setIfInBounds_toArray, List.set_cons_zero, List.set_cons_succ, i64_w, i32_w]
                        rfl
                      refine pure_ (i := 7) (N := some 43) (v := ?_) (a' := ?_) #[true, true, true, true, true, false, false, true, false, false, false, false, false, false, false] rfl rfl (any_of HT_.out (by kernel_rfl)) (fun _ _ _ h => h) (Or.inl ⟨by rfl, ?_⟩) ?_ ?_
                      rotate_left
                      · intro w'
                        go_simp
                        with_reducible rfl
                      rotate_left
                      · simp only [Act.put, List.setIfInBounds_toArray, List.set_cons_zero, List.set_cons_succ, i64_w, i32_w]
                        rfl
                      refine pure_ (i := 8) (N := some 44) (v := ?_) (a' := ?_) #[true, true, true, true, true, false, false, true, true, false, false, false, false, false, false] rfl rfl (any_of HT_.out (by kernel_rfl)) (fun _ _ _ h => h) (Or.inl ⟨by rfl, ?_⟩) ?_ ?_
                      rotate_left
                      · intro w'
                        go_simp
                        with_reducible rfl
                      rotate_left
                      · simp only [Act.put, List.setIfInBounds_toArray, List.set_cons_zero, List.set_cons_succ, i64_w, i32_w]
                        rfl
                      refine pure_ (i := 9) (N := some 45) (v := ?_) (a' := ?_) #[true, true, true, true, true, false, false, true, true, true, false, false, false, false, false] rfl rfl (any_of HT_.out (by kernel_rfl)) (fun _ _ _ h => h) (Or.inl ⟨by rfl, ?_⟩) ?_ ?_
                      rotate_left
                      · intro w'
                        go_simp
                        with_reducible rfl
                      rotate_left
                      · simp only [Act.put, List.setIfInBounds_toArray, List.set_cons_zero, List.set_cons_succ, i64_w, i32_w]
                        rfl
                      refine pure_ (i := 10) (N := some 46) (v := ?_) (a' := ?_) #[true, true, true, true, true, false, false, true, true, true, true, false, false, false, false] rfl rfl (any_of HT_.out (by kernel_rfl)) (fun _ _ _ h => h) (Or.inl ⟨by rfl, ?_⟩) ?_ ?_
                      rotate_left
                      · intro w'
                        go_simp
                        with_reducible rfl
                      rotate_left
                      · simp only [Act.put, List.setIfInBounds_toArray, List.set_cons_zero, List.set_cons_succ, i64_w, i32_w]
                        rfl
                      refine pure_ (i := 11) (N := some 47) (v := ?_) (a' := ?_) #[true, true, true, true, true, false, false, true, true, true, true, true, false, false, false] rfl rfl (any_of HT_.out (by kernel_rfl)) (fun _ _ _ h => h) (Or.inl ⟨by rfl, ?_⟩) ?_ ?_
                      rotate_left
                      · intro w'
                        go_simp
                        with_reducible rfl
                      rotate_left
                      · simp only [Act.put, List.setIfInBounds_toArray, List.set_cons_zero, List.set_cons_succ, i64_w, i32_w]
                        rfl
                      refine take_ (i := 5) (N := some 41) (v := ?_) (a' := ?_) #[true, true, true, true, true, true, false, true, true, true, true, true, false, false, false] rfl rfl (take_ofW HT_.out HW_.out (by kernel_rfl)) (fun _ _ _ h => h) (Or.inl ⟨by rfl, ?_⟩) hHeld ?_ ?_
                      rotate_left
                      · rintro w' ⟨s0, s1, s2, s3⟩
                        go_simp
                        with_reducible rfl
                      rotate_left
                      · simp only [Act.put, List.setIfInBounds_toArray, List.set_cons_zero, List.set_cons_succ, i64_w, i32_w]
                        rfl
                      refine take_ (i := 12) (N := some 48) (v := ?_) (a' := ?_) #[true, true, true, true, true, true, false, true, true, true, true, true, true, false, false] rfl rfl (take_ofW HT_.out HW_.out (by kernel_rfl)) (fun _ _ _ h => h) (Or.inl ⟨by rfl, ?_⟩) hHeld ?_ ?_
                      rotate_left
                      · rintro w' ⟨s0, s1, s2, s3⟩
                        go_simp
                        with_reducible rfl
                      rotate_left
                      · simp only [Act.put, List.setIfInBounds_toArray, List.set_cons_zero, List.set_cons_succ, i64_w, i32_w]
                        rfl
                      refine one_ (i := 6) (N := some 42) #[true, true, true, true, true, true, true, true, true, true, true, true, true, false, false] rfl rfl (one_of HT_.out (by kernel_rfl)) (by decide) (fun K hK => ?_)
                      refine goes_ Try.func15 (by kernel_rfl) rfl #[.pointer (some ⟨g188, 0, none⟩), .int .i64 ((rd_T31 l1 x7_2).f1)] (by rfl) rfl rfl (by (try simp only [List.map_toArray, List.map_cons, List.map_nil]); first | done | rfl | (simp only [List.length_drop, List.length_take]; rfl)) ?_
                      with_reducible refine (field_Reader_Int.calls k2 g188 x189000_2 x189001_2 x189002_2 ((rd_T31 l1 x7_2).f1) t195 t196 t197 t198 w _ ?side1 ?side2 A16.out).mono ?_
                      (case side1 => repeat (first | (with_reducible first | exact HI188.out | apply IsS53.alloc | apply IsS53.drewN | apply IsS53.drew | apply IsS53.set_0 | apply IsS53.set_1 | apply IsS53.set_2) | exact HI188.out))
                      (case side2 => repeat (first | (with_reducible first | exact HB.out | apply below_alloc | apply pw_below_drewN | apply below_drew1 | refine below_set ?_ (IsS53.ge HI188.out) | refine below_set ?_ (IsS55.ge HI191.out)) | exact HB.out))
                      rintro e w20 ⟨rfl, hi, hb, hk⟩
                      refine ⟨_, rfl, ?_⟩
                      have n0_ := Aside0.mk ((show IsS55 w _ g191 x192000_2 x192001_2 from ⟨KeepBut.blk hk (show IsS55 w _ g191 x192000_2 x192001_2 from by repeat (first | (with_reducible first | exact HI191.out | apply IsS55.alloc | apply IsS55.drewN | apply IsS55.drew | apply IsS55.set_0 | apply IsS55.set_1) | exact HI191.out)).1 (fun e_ => by have h1_ := (show IsS55 w _ g191 x192000_2 x192001_2 from by repeat (first | (with_reducible first | exact HI191.out | apply IsS55.alloc | apply IsS55.drewN | apply IsS55.drew | apply IsS55.set_0 | apply IsS55.set_1) | exact HI191.out)).1; have h2_ := (show IsS53 w _ g188 x189000_2 x189001_2 x189002_2 from by repeat (first | (with_reducible first | exact HI188.out | apply IsS53.alloc | apply IsS53.drewN | apply IsS53.drew | apply IsS53.set_0 | apply IsS53.set_1 | apply IsS53.set_2) | exact HI188.out)).1; rw [e_] at h1_; rw [h1_] at h2_; injection h2_ with h2_; injection h2_ with _ h3_; exact absurd h3_ (by decide)) (by simp), (show IsS55 w _ g191 x192000_2 x192001_2 from by repeat (first | (with_reducible first | exact HI191.out | apply IsS55.alloc | apply IsS55.drewN | apply IsS55.drew | apply IsS55.set_0 | apply IsS55.set_1) | exact HI191.out)).2⟩))
                      have n1_ := Aside0.mk (hb)
                      have n2_ := Aside0.mk (hi)
                      clear HI191
                      clear HB
                      clear HI188
                      have HI191 := n0_
                      have HB := n1_
                      have HI188 := n2_
                      clear n0_ n1_ n2_
                      (try clear hb)
                      (try clear hb2)
                      (try clear hk)
                      (try clear hi)
                      refine hK.out _ _ ⟨((HB.out.cell (World.block_lt_of_cell? w _ hw194_0)).trans hw194_0), ((HB.out.cell (World.block_lt_of_cell? w _ hw194_1)).trans hw194_1), ((HB.out.cell (World.block_lt_of_cell? w _ hw199_0)).trans hw199_0), ((HB.out.cell (World.block_lt_of_cell? w _ hw199_1)).trans hw199_1)⟩ (fun hHeld => ?_)
                      clear hK K
                      refine norm_ (a' := ?_) ?_ ?_
                      rotate_left
                      · show Act.put _ (some 42) _ = _
                        simp only [Act.put, List.setIfInBounds_toArray, List.set_cons_zero, List.set_cons_succ, i64_w, i32_w]
                        rfl
                      refine one_ (i := 13) (N := some 49) #[true, true, true, true, true, true, true, true, true, true, true, true, true, true, false] rfl rfl (one_of HT_.out (by kernel_rfl)) (by decide) (fun K hK => ?_)
                      refine goes_ Try.func16 (by kernel_rfl) rfl #[.pointer (some ⟨g191, 0, none⟩), .int .i64 ((rd_T31 l1 x7_2).f1)] (by rfl) rfl rfl (by (try simp only [List.map_toArray, List.map_cons, List.map_nil]); first | done | rfl | (simp only [List.length_drop, List.length_take]; rfl)) ?_
                      with_reducible refine (intrusionref01_Reader_Int.calls k2 g191 x192000_2 x192001_2 ((rd_T31 l1 x7_2).f1) t200 t201 t202 w _ ?side1 ?side2 A17.out).mono ?_
                      (case side1 => repeat (first | (with_reducible first | exact HI191.out | apply IsS55.alloc | apply IsS55.drewN | apply IsS55.drew | apply IsS55.set_0 | apply IsS55.set_1) | exact HI191.out))
                      (case side2 => repeat (first | (with_reducible first | exact HB.out | apply below_alloc | apply pw_below_drewN | apply below_drew1 | refine below_set ?_ (IsS53.ge HI188.out) | refine below_set ?_ (IsS55.ge HI191.out)) | exact HB.out))
                      rintro e w21 ⟨rfl, hi, hb, hk⟩
                      refine ⟨_, rfl, ?_⟩
                      have n0_ := Aside0.mk ((show IsS53 w _ g188 t196 t197 t198 from ⟨KeepBut.blk hk (show IsS53 w _ g188 t196 t197 t198 from by repeat (first | (with_reducible first | exact HI188.out | apply IsS53.alloc | apply IsS53.drewN | apply IsS53.drew | apply IsS53.set_0 | apply IsS53.set_1 | apply IsS53.set_2) | exact HI188.out)).1 (fun e_ => by have h1_ := (show IsS53 w _ g188 t196 t197 t198 from by repeat (first | (with_reducible first | exact HI188.out | apply IsS53.alloc | apply IsS53.drewN | apply IsS53.drew | apply IsS53.set_0 | apply IsS53.set_1 | apply IsS53.set_2) | exact HI188.out)).1; have h2_ := (show IsS55 w _ g191 x192000_2 x192001_2 from by repeat (first | (with_reducible first | exact HI191.out | apply IsS55.alloc | apply IsS55.drewN | apply IsS55.drew | apply IsS55.set_0 | apply IsS55.set_1) | exact HI191.out)).1; rw [e_] at h1_; rw [h1_] at h2_; injection h2_ with h2_; injection h2_ with _ h3_; exact absurd h3_ (by decide)) (by simp), (show IsS53 w _ g188 t196 t197 t198 from by repeat (first | (with_reducible first | exact HI188.out | apply IsS53.alloc | apply IsS53.drewN | apply IsS53.drew | apply IsS53.set_0 | apply IsS53.set_1 | apply IsS53.set_2) | exact HI188.out)).2⟩))
                      have n1_ := Aside0.mk (hb)
                      have n2_ := Aside0.mk (hi)
                      clear HI188
                      clear HB
                      clear HI191
                      have HI188 := n0_
                      have HB := n1_
                      have HI191 := n2_
                      clear n0_ n1_ n2_
                      (try clear hb)
                      (try clear hb2)
                      (try clear hk)
                      (try clear hi)
                      refine hK.out _ _ ⟨((HB.out.cell (World.block_lt_of_cell? w _ hw194_0)).trans hw194_0), ((HB.out.cell (World.block_lt_of_cell? w _ hw194_1)).trans hw194_1), ((HB.out.cell (World.block_lt_of_cell? w _ hw199_0)).trans hw199_0), ((HB.out.cell (World.block_lt_of_cell? w _ hw199_1)).trans hw199_1)⟩ (fun hHeld => ?_)
                      clear hK K
                      refine norm_ (a' := ?_) ?_ ?_
                      rotate_left
                      · show Act.put _ (some 49) _ = _
                        simp only [Act.put, List.setIfInBounds_toArray, List.set_cons_zero, List.set_cons_succ, i64_w, i32_w]
                        rfl
                      refine pure_ (i := 14) (N := some 50) (v := ?_) (a' := ?_) #[true, true, true, true, true, true, true, true, true, true, true, true, true, true, true] rfl rfl (any_of HT_.out (by kernel_rfl)) (fun _ _ _ h => h) (Or.inl ⟨by rfl, ?_⟩) ?_ ?_
                      rotate_left
                      · intro w'
                        go_simp
                        with_reducible rfl
                      rotate_left
                      · simp only [Act.put, List.setIfInBounds_toArray, List.set_cons_zero, List.set_cons_succ, i64_w, i32_w]
                        rfl
                      refine done_ (done_of HT_.out (by kernel_rfl)) ?_
                      try go_wp2
                      go_meet
                      case rel => exact ⟨_, (t196), (t197), (t198), (t201), (t202), H', ⟨by have := HJ2.out; have := HK2.out; first | omega | exact Nat.le_refl _⟩, ⟨by repeat (first | (with_reducible first | exact HI188.out | apply IsS53.alloc | apply IsS53.drewN | apply IsS53.drew | apply IsS53.set_0 | apply IsS53.set_1 | apply IsS53.set_2) | exact HI188.out)⟩, ⟨by repeat (first | (with_reducible first | exact HI191.out | apply IsS55.alloc | apply IsS55.drewN | apply IsS55.drew | apply IsS55.set_0 | apply IsS55.set_1) | exact HI191.out)⟩, ⟨by repeat (first | (with_reducible first | exact HB.out | apply below_alloc | apply pw_below_drewN | apply below_drew1 | refine below_set ?_ (IsS53.ge HI188.out) | refine below_set ?_ (IsS55.ge HI191.out)) | exact HB.out)⟩⟩
                    · rw [if_neg c18] at H
                      have c18b0 : (t195 == t200) = false := beq_eq_false_iff_ne.mpr c18
                      have c18b1 : (t195 != t200) = true := bne_iff_ne.mpr c18
                      obtain rfl := Option.some.inj H
                      try go_wp2
                      have n0_ := Aside0.mk (IsS53.drew HI188.out)
                      have n1_ := Aside0.mk (IsS55.drew HI191.out)
                      have n2_ := Aside0.mk (below_drew1 HB.out)
                      clear HI188
                      clear HI191
                      clear HB
                      have HI188 := n0_
                      have HI191 := n1_
                      have HB := n2_
                      clear n0_ n1_ n2_
                      have p194 : 0 ≤ (x7_2 : Int) := of_decide_eq_true (by first | (with_reducible assumption) | assumption)
                      have q194 : x7_2 < (l1.length : Int) := of_decide_eq_true (by first | (with_reducible assumption) | assumption)
                      obtain ⟨ad194, e194, hx194_0, hx194_1⟩ := at_T31 HR1.out x7_2 p194 q194
                      have hw194_1 := hx194_1
                      have hw194_0 := hx194_0
                      obtain rfl : ad193 = ad194 := (by injection e194)
                      replace hx194_0 := (HB.out.cell (World.block_lt_of_cell? w _ hx194_0)).trans hx194_0
                      replace hx194_1 := (HB.out.cell (World.block_lt_of_cell? w _ hx194_1)).trans hx194_1
                      replace p194 := eq_true p194
                      replace q194 := eq_true q194
                      have p199 : 0 ≤ (x7_2 : Int) := of_decide_eq_true (by first | (with_reducible assumption) | assumption)
                      have q199 : x7_2 < (l1.length : Int) := of_decide_eq_true (by first | (with_reducible assumption) | assumption)
                      obtain ⟨ad199, e199, hx199_0, hx199_1⟩ := at_T31 HR1.out x7_2 p199 q199
                      have hw199_1 := hx199_1
                      have hw199_0 := hx199_0
                      obtain rfl : ad193 = ad199 := (by injection e199)
                      replace hx199_0 := (HB.out.cell (World.block_lt_of_cell? w _ hx199_0)).trans hx199_0
                      replace hx199_1 := (HB.out.cell (World.block_lt_of_cell? w _ hx199_1)).trans hx199_1
                      replace p199 := eq_true p199
                      replace q199 := eq_true q199
                      refine start_ (n := 15) (S := fun w' => w'.cell? (ad193.add ((x7_2).toNat * 2)) = some (.int .i64 ((rd_T31 l1 x7_2).f0)) ∧ w'.cell? ⟨(ad193.add ((x7_2).toNat * 2)).block, (ad193.add ((x7_2).toNat * 2)).off + 1, none⟩ = some (.int .i64 ((rd_T31 l1 x7_2).f1)) ∧ w'.cell? (ad193.add ((x7_2).toNat * 2)) = some (.int .i64 ((rd_T31 l1 x7_2).f0)) ∧ w'.cell? ⟨(ad193.add ((x7_2).toNat * 2)).block, (ad193.add ((x7_2).toNat * 2)).off + 1, none⟩ = some (.int .i64 ((rd_T31 l1 x7_2).f1))) (ds := []) #[false, false, false, false, false, false, false, false, false, false, false, false, false, false, false] (by kernel_rfl) rfl rfl ⟨((HB.out.cell (World.block_lt_of_cell? w _ hw194_0)).trans hw194_0), ((HB.out.cell (World.block_lt_of_cell? w _ hw194_1)).trans hw194_1), ((HB.out.cell (World.block_lt_of_cell? w _ hw199_0)).trans hw199_0), ((HB.out.cell (World.block_lt_of_cell? w _ hw199_1)).trans hw199_1)⟩ (fun hHeld => ?_); refine with_tabW intrusionlaw01_FieldReads.tab12 intrusionlaw01_FieldReads.bits12 (fun HT_ HW_ => ?_)
                      generalize wr.drew = w22 at HI188 HI191 HB hx194_0 hx194_1 hx199_0 hx199_1 hHeld ⊢
                      refine pure_ (i := 0) (N := some 36) (v := ?_) (a' := ?_) #[true, false, false, false, false, false, false, false, false, false, false, false, false, false, false] rfl rfl (any_of HT_.out (by kernel_rfl)) (fun _ _ _ h => h) (Or.inl ⟨by rfl, ?_⟩) ?_ ?_
                      rotate_left
                      · intro w'
                        go_simp
                        with_reducible rfl
                      rotate_left
                      · simp only [Act.put, List.setIfInBounds_toArray, List.set_cons_zero, List.set_cons_succ, i64_w, i32_w]
                        rfl
                      refine pure_ (i := 1) (N := some 37) (v := ?_) (a' := ?_) #[true, true, false, false, false, false, false, false, false, false, false, false, false, false, false] rfl rfl (any_of HT_.out (by kernel_rfl)) (fun _ _ _ h => h) (Or.inl ⟨by rfl, ?_⟩) ?_ ?_
                      rotate_left
                      · intro w'
                        go_simp
                        with_reducible rfl
                      rotate_left
                      · simp only [Act.put, List.setIfInBounds_toArray, List.set_cons_zero, List.set_cons_succ, i64_w, i32_w]
                        rfl
                      refine pure_ (i := 2) (N := some 38) (v := ?_) (a' := ?_) #[true, true, true, false, false, false, false, false, false, false, false, false, false, false, false] rfl rfl (any_of HT_.out (by kernel_rfl)) (fun _ _ _ h => h) (Or.inl ⟨by rfl, ?_⟩) ?_ ?_
                      rotate_left
                      · intro w'
                        go_simp
                        with_reducible rfl
                      rotate_left
                      · simp only [Act.put, List.setIfInBounds_toArray, List.set_cons_zero, List.set_cons_succ, i64_w, i32_w]
                        rfl
                      refine pure_ (i := 3) (N := some 39) (v := ?_) (a' := ?_) #[true, true, true, true, false, false, false, false, false, false, false, false, false, false, false] rfl rfl (any_of HT_.out (by kernel_rfl)) (fun _ _ _ h => h) (Or.inl ⟨by rfl, ?_⟩) ?_ ?_
                      rotate_left
                      · intro w'
                        go_simp
                        with_reducible rfl
                      rotate_left
                      · simp only [Act.put, List.setIfInBounds_toArray, List.set_cons_zero, List.set_cons_succ, i64_w, i32_w]
                        rfl
                      refine pure_ (i := 4) (N := some 40) (v := ?_) (a' := ?_) #[true, true, true, true, true, false, false, false, false, false, false, false, false, false, false] rfl rfl (any_of HT_.out (by kernel_rfl)) (fun _ _ _ h => h) (Or.inl ⟨by rfl, ?_⟩) ?_ ?_
                      rotate_left
                      · intro w'
                        go_simp
                        with_reducible rfl
                      rotate_left
                      · simp only [Act.put, List.setIfInBounds_toArray, List.set_cons_zero, List.set_cons_succ, i64_w, i32_w]
                        rfl
                      refine pure_ (i := 7) (N := some 43) (v := ?_) (a' := ?_) #[true, true, true, true, true, false, false, true, false, false, false, false, false, false, false] rfl rfl (any_of HT_.out (by kernel_rfl)) (fun _ _ _ h => h) (Or.inl ⟨by rfl, ?_⟩) ?_ ?_
                      rotate_left
                      · intro w'
                        go_simp
                        with_reducible rfl
                      rotate_left
                      · simp only [Act.put, List.setIfInBounds_toArray, List.set_cons_zero, List.set_cons_succ, i64_w, i32_w]
                        rfl
                      refine pure_ (i := 8) (N := some 44) (v := ?_) (a' := ?_) #[true, true, true, true, true, false, false, true, true, false, false, false, false, false, false] rfl rfl (any_of HT_.out (by kernel_rfl)) (fun _ _ _ h => h) (Or.inl ⟨by rfl, ?_⟩) ?_ ?_
                      rotate_left
                      · intro w'
                        go_simp
                        with_reducible rfl
                      rotate_left
                      · simp only [Act.put, List.setIfInBounds_toArray, List.set_cons_zero, List.set_cons_succ, i64_w, i32_w]
                        rfl
                      refine pure_ (i := 9) (N := some 45) (v := ?_) (a' := ?_) #[true, true, true, true, true, false, false, true, true, true, false, false, false, false, false] rfl rfl (any_of HT_.out (by kernel_rfl)) (fun _ _ _ h => h) (Or.inl ⟨by rfl, ?_⟩) ?_ ?_
                      rotate_left
                      · intro w'
                        go_simp
                        with_reducible rfl
                      rotate_left
                      · simp only [Act.put, List.setIfInBounds_toArray, List.set_cons_zero, List.set_cons_succ, i64_w, i32_w]
                        rfl
                      refine pure_ (i := 10) (N := some 46) (v := ?_) (a' := ?_) #[true, true, true, true, true, false, false, true, true, true, true, false, false, false, false] rfl rfl (any_of HT_.out (by kernel_rfl)) (fun _ _ _ h => h) (Or.inl ⟨by rfl, ?_⟩) ?_ ?_
                      rotate_left
                      · intro w'
                        go_simp
                        with_reducible rfl
                      rotate_left
                      · simp only [Act.put, List.setIfInBounds_toArray, List.set_cons_zero, List.set_cons_succ, i64_w, i32_w]
                        rfl
                      refine pure_ (i := 11) (N := some 47) (v := ?_) (a' := ?_) #[true, true, true, true, true, false, false, true, true, true, true, true, false, false, false] rfl rfl (any_of HT_.out (by kernel_rfl)) (fun _ _ _ h => h) (Or.inl ⟨by rfl, ?_⟩) ?_ ?_
                      rotate_left
                      · intro w'
                        go_simp
                        with_reducible rfl
                      rotate_left
                      · simp only [Act.put, List.setIfInBounds_toArray, List.set_cons_zero, List.set_cons_succ, i64_w, i32_w]
                        rfl
                      refine take_ (i := 5) (N := some 41) (v := ?_) (a' := ?_) #[true, true, true, true, true, true, false, true, true, true, true, true, false, false, false] rfl rfl (take_ofW HT_.out HW_.out (by kernel_rfl)) (fun _ _ _ h => h) (Or.inl ⟨by rfl, ?_⟩) hHeld ?_ ?_
                      rotate_left
                      · rintro w' ⟨s0, s1, s2, s3⟩
                        go_simp
                        with_reducible rfl
                      rotate_left
                      · simp only [Act.put, List.setIfInBounds_toArray, List.set_cons_zero, List.set_cons_succ, i64_w, i32_w]
                        rfl
                      refine take_ (i := 12) (N := some 48) (v := ?_) (a' := ?_) #[true, true, true, true, true, true, false, true, true, true, true, true, true, false, false] rfl rfl (take_ofW HT_.out HW_.out (by kernel_rfl)) (fun _ _ _ h => h) (Or.inl ⟨by rfl, ?_⟩) hHeld ?_ ?_
                      rotate_left
                      · rintro w' ⟨s0, s1, s2, s3⟩
                        go_simp
                        with_reducible rfl
                      rotate_left
                      · simp only [Act.put, List.setIfInBounds_toArray, List.set_cons_zero, List.set_cons_succ, i64_w, i32_w]
                        rfl
                      refine one_ (i := 6) (N := some 42) #[true, true, true, true, true, true, true, true, true, true, true, true, true, false, false] rfl rfl (one_of HT_.out (by kernel_rfl)) (by decide) (fun K hK => ?_)
                      refine goes_ Try.func15 (by kernel_rfl) rfl #[.pointer (some ⟨g188, 0, none⟩), .int .i64 ((rd_T31 l1 x7_2).f1)] (by rfl) rfl rfl (by (try simp only [List.map_toArray, List.map_cons, List.map_nil]); first | done | rfl | (simp only [List.length_drop, List.length_take]; rfl)) ?_
                      with_reducible refine (field_Reader_Int.calls k2 g188 x189000_2 x189001_2 x189002_2 ((rd_T31 l1 x7_2).f1) t195 t196 t197 t198 w _ ?side1 ?side2 A16.out).mono ?_
                      (case side1 => repeat (first | (with_reducible first | exact HI188.out | apply IsS53.alloc | apply IsS53.drewN | apply IsS53.drew | apply IsS53.set_0 | apply IsS53.set_1 | apply IsS53.set_2) | exact HI188.out))
                      (case side2 => repeat (first | (with_reducible first | exact HB.out | apply below_alloc | apply pw_below_drewN | apply below_drew1 | refine below_set ?_ (IsS53.ge HI188.out) | refine below_set ?_ (IsS55.ge HI191.out)) | exact HB.out))
                      rintro e w23 ⟨rfl, hi, hb, hk⟩
                      refine ⟨_, rfl, ?_⟩
                      have n0_ := Aside0.mk ((show IsS55 w _ g191 x192000_2 x192001_2 from ⟨KeepBut.blk hk (show IsS55 w _ g191 x192000_2 x192001_2 from by repeat (first | (with_reducible first | exact HI191.out | apply IsS55.alloc | apply IsS55.drewN | apply IsS55.drew | apply IsS55.set_0 | apply IsS55.set_1) | exact HI191.out)).1 (fun e_ => by have h1_ := (show IsS55 w _ g191 x192000_2 x192001_2 from by repeat (first | (with_reducible first | exact HI191.out | apply IsS55.alloc | apply IsS55.drewN | apply IsS55.drew | apply IsS55.set_0 | apply IsS55.set_1) | exact HI191.out)).1; have h2_ := (show IsS53 w _ g188 x189000_2 x189001_2 x189002_2 from by repeat (first | (with_reducible first | exact HI188.out | apply IsS53.alloc | apply IsS53.drewN | apply IsS53.drew | apply IsS53.set_0 | apply IsS53.set_1 | apply IsS53.set_2) | exact HI188.out)).1; rw [e_] at h1_; rw [h1_] at h2_; injection h2_ with h2_; injection h2_ with _ h3_; exact absurd h3_ (by decide)) (by simp), (show IsS55 w _ g191 x192000_2 x192001_2 from by repeat (first | (with_reducible first | exact HI191.out | apply IsS55.alloc | apply IsS55.drewN | apply IsS55.drew | apply IsS55.set_0 | apply IsS55.set_1) | exact HI191.out)).2⟩))
                      have n1_ := Aside0.mk (hb)
                      have n2_ := Aside0.mk (hi)
                      clear HI191
                      clear HB
                      clear HI188
                      have HI191 := n0_
                      have HB := n1_
                      have HI188 := n2_
                      clear n0_ n1_ n2_
                      (try clear hb)
                      (try clear hb2)
                      (try clear hk)
                      (try clear hi)
                      refine hK.out _ _ ⟨((HB.out.cell (World.block_lt_of_cell? w _ hw194_0)).trans hw194_0), ((HB.out.cell (World.block_lt_of_cell? w _ hw194_1)).trans hw194_1), ((HB.out.cell (World.block_lt_of_cell? w _ hw199_0)).trans hw199_0), ((HB.out.cell (World.block_lt_of_cell? w _ hw199_1)).trans hw199_1)⟩ (fun hHeld => ?_)
                      clear hK K
                      refine norm_ (a' := ?_) ?_ ?_
                      rotate_left
                      · show Act.put _ (some 42) _ = _
                        simp only [Act.put, List.setIfInBounds_toArray, List.set_cons_zero, List.set_cons_succ, i64_w, i32_w]
                        rfl
                      refine one_ (i := 13) (N := some 49) #[true, true, true, true, true, true, true, true, true, true, true, true, true, true, false] rfl rfl (one_of HT_.out (by kernel_rfl)) (by decide) (fun K hK => ?_)
                      refine goes_ Try.func16 (by kernel_rfl) rfl #[.pointer (some ⟨g191, 0, none⟩), .int .i64 ((rd_T31 l1 x7_2).f1)] (by rfl) rfl rfl (by (try simp only [List.map_toArray, List.map_cons, List.map_nil]); first | done | rfl | (simp only [List.length_drop, List.length_take]; rfl)) ?_
                      with_reducible refine (intrusionref01_Reader_Int.calls k2 g191 x192000_2 x192001_2 ((rd_T31 l1 x7_2).f1) t200 t201 t202 w _ ?side1 ?side2 A17.out).mono ?_
                      (case side1 => repeat (first | (with_reducible first | exact HI191.out | apply IsS55.alloc | apply IsS55.drewN | apply IsS55.drew | apply IsS55.set_0 | apply IsS55.set_1) | exact HI191.out))
                      (case side2 => repeat (first | (with_reducible first | exact HB.out | apply below_alloc | apply pw_below_drewN | apply below_drew1 | refine below_set ?_ (IsS53.ge HI188.out) | refine below_set ?_ (IsS55.ge HI191.out)) | exact HB.out))
                      rintro e w24 ⟨rfl, hi, hb, hk⟩
                      refine ⟨_, rfl, ?_⟩
                      have n0_ := Aside0.mk ((show IsS53 w _ g188 t196 t197 t198 from ⟨KeepBut.blk hk (show IsS53 w _ g188 t196 t197 t198 from by repeat (first | (with_reducible first | exact HI188.out | apply IsS53.alloc | apply IsS53.drewN | apply IsS53.drew | apply IsS53.set_0 | apply IsS53.set_1 | apply IsS53.set_2) | exact HI188.out)).1 (fun e_ => by have h1_ := (show IsS53 w _ g188 t196 t197 t198 from by repeat (first | (with_reducible first | exact HI188.out | apply IsS53.alloc | apply IsS53.drewN | apply IsS53.drew | apply IsS53.set_0 | apply IsS53.set_1 | apply IsS53.set_2) | exact HI188.out)).1; have h2_ := (show IsS55 w _ g191 x192000_2 x192001_2 from by repeat (first | (with_reducible first | exact HI191.out | apply IsS55.alloc | apply IsS55.drewN | apply IsS55.drew | apply IsS55.set_0 | apply IsS55.set_1) | exact HI191.out)).1; rw [e_] at h1_; rw [h1_] at h2_; injection h2_ with h2_; injection h2_ with _ h3_; exact absurd h3_ (by decide)) (by simp), (show IsS53 w _ g188 t196 t197 t198 from by repeat (first | (with_reducible first | exact HI188.out | apply IsS53.alloc | apply IsS53.drewN | apply IsS53.drew | apply IsS53.set_0 | apply IsS53.set_1 | apply IsS53.set_2) | exact HI188.out)).2⟩))
                      have n1_ := Aside0.mk (hb)
                      have n2_ := Aside0.mk (hi)
                      clear HI188
                      clear HB
                      clear HI191
                      have HI188 := n0_
                      have HB := n1_
                      have HI191 := n2_
                      clear n0_ n1_ n2_
                      (try clear hb)
                      (try clear hb2)
                      (try clear hk)
                      (try clear hi)
                      refine hK.out _ _ ⟨((HB.out.cell (World.block_lt_of_cell? w _ hw194_0)).trans hw194_0), ((HB.out.cell (World.block_lt_of_cell? w _ hw194_1)).trans hw194_1), ((HB.out.cell (World.block_lt_of_cell? w _ hw199_0)).trans hw199_0), ((HB.out.cell (World.block_lt_of_cell? w _ hw199_1)).trans hw199_1)⟩ (fun hHeld => ?_)
                      clear hK K
                      refine norm_ (a' := ?_) ?_ ?_
                      rotate_left
                      · show Act.put _ (some 49) _ = _
                        simp only [Act.put, List.setIfInBounds_toArray, List.set_cons_zero, List.set_cons_succ, i64_w, i32_w]
                        rfl
                      refine pure_ (i := 14) (N := some 50) (v := ?_) (a' := ?_) #[true, true, true, true, true, true, true, true, true, true, true, true, true, true, true] rfl rfl (any_of HT_.out (by kernel_rfl)) (fun _ _ _ h => h) (Or.inl ⟨by rfl, ?_⟩) ?_ ?_
                      rotate_left
                      · intro w'
                        go_simp
                        with_reducible rfl
                      rotate_left
                      · simp only [Act.put, List.setIfInBounds_toArray, List.set_cons_zero, List.set_cons_succ, i64_w, i32_w]
                        rfl
                      refine done_ (done_of HT_.out (by kernel_rfl)) ?_
                      try go_wp2
                      go_ret
                      exact ⟨by first | rfl | (simp [errW_none, errW_some] <;> rfl) | (simp [*, errW_none, errW_some] <;> rfl), by repeat (first | (with_reducible first | exact HB.out | apply below_alloc | apply pw_below_drewN | apply below_drew1 | refine below_set ?_ (IsS53.ge HI188.out) | refine below_set ?_ (IsS55.ge HI191.out)) | exact HB.out)⟩
                  · rw [if_neg c15] at H
                    have c15b0 : (((rd_T31 l1 x7_2).f0) == 0) = false := beq_eq_false_iff_ne.mpr c15
                    have c15b1 : (((rd_T31 l1 x7_2).f0) != 0) = true := bne_iff_ne.mpr c15
                    (first | rw [c15b0] | (simp only [i64_w, i32_w]; rw [c15b0]) | skip)
                    by_cases c25 : ((rd_T31 l1 x7_2).f0) = 1
                    · rw [if_pos c25] at H
                      have c25b0 : (((rd_T31 l1 x7_2).f0) == 1) = true := beq_iff_eq.mpr c25
                      have c25b1 : (((rd_T31 l1 x7_2).f0) != 1) = false := bne_eq_false_iff_eq.mpr c25
                      clear c25
                      replace H := Option.bind_eq_some_iff.mp H
                      obtain ⟨⟨t204, t205, t206, t207⟩, A260, H⟩ := H
                      replace H : ((intrusionref01_Reader_Take.f x192000_2 x192001_2 ((rd_T31 l1 x7_2).f1)).bind fun bt209 => (if t204.toList = bt209.1.toList then (intrusionlaw01_FieldReads.j2 k2 l1 x7_2 t205 t206 t207 bt209.2.1 bt209.2.2) else (some false))) = some r := H
                      have A26 := Aside0.mk A260
                      clear A260
                      replace H := Option.bind_eq_some_iff.mp H
                      obtain ⟨⟨t209, t210, t211⟩, A270, H⟩ := H
                      replace H : (if t204.toList = t209.toList then (intrusionlaw01_FieldReads.j2 k2 l1 x7_2 t205 t206 t207 t210 t211) else (some false)) = some r := H
                      have A27 := Aside0.mk A270
                      clear A270
                      by_cases c28 : t204.toList = t209.toList
                      · rw [if_pos c28] at H
                        have c28b0 : (t204.toList == t209.toList) = true := beq_iff_eq.mpr c28
                        have c28b1 : (t204.toList != t209.toList) = false := bne_eq_false_iff_eq.mpr c28
                        clear c28
                        have H' := Aside0.mk H
                        clear H
                        try go_wp2
                        have n0_ := Aside0.mk (IsS53.drew HI188.out)
                        have n1_ := Aside0.mk (IsS55.drew HI191.out)
                        have n2_ := Aside0.mk (below_drew1 HB.out)
                        clear HI188
                        clear HI191
                        clear HB
                        have HI188 := n0_
                        have HI191 := n1_
                        have HB := n2_
                        clear n0_ n1_ n2_
                        have p203 : 0 ≤ (x7_2 : Int) := of_decide_eq_true (by first | (with_reducible assumption) | assumption)
                        have q203 : x7_2 < (l1.length : Int) := of_decide_eq_true (by first | (with_reducible assumption) | assumption)
                        obtain ⟨ad203, e203, hx203_0, hx203_1⟩ := at_T31 HR1.out x7_2 p203 q203
                        have hw203_1 := hx203_1
                        have hw203_0 := hx203_0
                        obtain rfl : ad193 = ad203 := (by injection e203)
                        replace hx203_0 := (HB.out.cell (World.block_lt_of_cell? w _ hx203_0)).trans hx203_0
                        replace hx203_1 := (HB.out.cell (World.block_lt_of_cell? w _ hx203_1)).trans hx203_1
                        replace p203 := eq_true p203
                        replace q203 := eq_true q203
                        have p208 : 0 ≤ (x7_2 : Int) := of_decide_eq_true (by first | (with_reducible assumption) | assumption)
                        have q208 : x7_2 < (l1.length : Int) := of_decide_eq_true (by first | (with_reducible assumption) | assumption)
                        obtain ⟨ad208, e208, hx208_0, hx208_1⟩ := at_T31 HR1.out x7_2 p208 q208
                        have hw208_1 := hx208_1
                        have hw208_0 := hx208_0
                        obtain rfl : ad193 = ad208 := (by injection e208)
                        replace hx208_0 := (HB.out.cell (World.block_lt_of_cell? w _ hx208_0)).trans hx208_0
                        replace hx208_1 := (HB.out.cell (World.block_lt_of_cell? w _ hx208_1)).trans hx208_1
                        replace p208 := eq_true p208
                        replace q208 := eq_true q208
                        refine start_ (n := 15) (S := fun w' => w'.cell? (ad193.add ((x7_2).toNat * 2)) = some (.int .i64 ((rd_T31 l1 x7_2).f0)) ∧ w'.cell? ⟨(ad193.add ((x7_2).toNat * 2)).block, (ad193.add ((x7_2).toNat * 2)).off + 1, none⟩ = some (.int .i64 ((rd_T31 l1 x7_2).f1)) ∧ w'.cell? (ad193.add ((x7_2).toNat * 2)) = some (.int .i64 ((rd_T31 l1 x7_2).f0)) ∧ w'.cell? ⟨(ad193.add ((x7_2).toNat * 2)).block, (ad193.add ((x7_2).toNat * 2)).off + 1, none⟩ = some (.int .i64 ((rd_T31 l1 x7_2).f1))) (ds := []) #[false, false, false, false, false, false, false, false, false, false, false, false, false, false, false] (by kernel_rfl) rfl rfl ⟨((HB.out.cell (World.block_lt_of_cell? w _ hw203_0)).trans hw203_0), ((HB.out.cell (World.block_lt_of_cell? w _ hw203_1)).trans hw203_1), ((HB.out.cell (World.block_lt_of_cell? w _ hw208_0)).trans hw208_0), ((HB.out.cell (World.block_lt_of_cell? w _ hw208_1)).trans hw208_1)⟩ (fun hHeld => ?_); refine with_tabW intrusionlaw01_FieldReads.tab15 intrusionlaw01_FieldReads.bits15 (fun HT_ HW_ => ?_)
                        generalize wr.drew = w29 at HI188 HI191 HB hx203_0 hx203_1 hx208_0 hx208_1 hHeld ⊢
                        refine pure_ (i := 0) (N := some 53) (v := ?_) (a' := ?_) #[true, false, false, false, false, false, false, false, false, false, false, false, false, false, false] rfl rfl (any_of HT_.out (by kernel_rfl)) (fun _ _ _ h => h) (Or.inl ⟨by rfl, ?_⟩) ?_ ?_
                        rotate_left
                        · intro w'
                          go_simp
                          with_reducible rfl
                        rotate_left
                        · simp only [Act.put, List.setIfInBounds_toArray, List.set_cons_zero, List.set_cons_succ, i64_w, i32_w]
                          rfl
                        refine pure_ (i := 1) (N := some 54) (v := ?_) (a' := ?_) #[true, true, false, false, false, false, false, false, false, false, false, false, false, false, false] rfl rfl (any_of HT_.out (by kernel_rfl)) (fun _ _ _ h => h) (Or.inl ⟨by rfl, ?_⟩) ?_ ?_
                        rotate_left
                        · intro w'
                          go_simp
                          with_reducible rfl
                        rotate_left
                        · simp only [Act.put, List.setIfInBounds_toArray, List.set_cons_zero, List.set_cons_succ, i64_w, i32_w]
                          rfl
                        refine pure_ (i := 2) (N := some 55) (v := ?_) (a' := ?_) #[true, true, true, false, false, false, false, false, false, false, false, false, false, false, false] rfl rfl (any_of HT_.out (by kernel_rfl)) (fun _ _ _ h => h) (Or.inl ⟨by rfl, ?_⟩) ?_ ?_
                        rotate_left
                        · intro w'
                          go_simp
                          with_reducible rfl
                        rotate_left
                        · simp only [Act.put, List.setIfInBounds_toArray, List.set_cons_zero, List.set_cons_succ, i64_w, i32_w]
                          rfl
                        refine pure_ (i := 3) (N := some 56) (v := ?_) (a' := ?_) #[true, true, true, true, false, false, false, false, false, false, false, false, false, false, false] rfl rfl (any_of HT_.out (by kernel_rfl)) (fun _ _ _ h => h) (Or.inl ⟨by rfl, ?_⟩) ?_ ?_
                        rotate_left
                        · intro w'
                          go_simp
                          with_reducible rfl
                        rotate_left
                        · simp only [Act.put, List.setIfInBounds_toArray, List.set_cons_zero, List.set_cons_succ, i64_w, i32_w]
                          rfl
                        refine pure_ (i := 4) (N := some 57) (v := ?_) (a' := ?_) #[true, true, true, true, true, false, false, false, false, false, false, false, false, false, false] rfl rfl (any_of HT_.out (by kernel_rfl)) (fun _ _ _ h => h) (Or.inl ⟨by rfl, ?_⟩) ?_ ?_
                        rotate_left
                        · intro w'
                          go_simp
                          with_reducible rfl
                        rotate_left
                        · simp only [Act.put, List.setIfInBounds_toArray, List.set_cons_zero, List.set_cons_succ, i64_w, i32_w]
                          rfl
                        refine pure_ (i := 7) (N := some 60) (v := ?_) (a' := ?_) #[true, true, true, true, true, false, false, true, false, false, false, false, false, false, false] rfl rfl (any_of HT_.out (by kernel_rfl)) (fun _ _ _ h => h) (Or.inl ⟨by rfl, ?_⟩) ?_ ?_
                        rotate_left
                        · intro w'
                          go_simp
                          with_reducible rfl
                        rotate_left
                        · simp only [Act.put, List.setIfInBounds_toArray, List.set_cons_zero, List.set_cons_succ, i64_w, i32_w]
                          rfl
                        refine pure_ (i := 8) (N := some 61) (v := ?_) (a' := ?_) #[true, true, true, true, true, false, false, true, true, false, false, false, false, false, false] rfl rfl (any_of HT_.out (by kernel_rfl)) (fun _ _ _ h => h) (Or.inl ⟨by rfl, ?_⟩) ?_ ?_
                        rotate_left
                        · intro w'
                          go_simp
                          with_reducible rfl
                        rotate_left
                        · simp only [Act.put, List.setIfInBounds_toArray, List.set_cons_zero, List.set_cons_succ, i64_w, i32_w]
                          rfl
                        refine pure_ (i := 9) (N := some 62) (v := ?_) (a' := ?_) #[true, true, true, true, true, false, false, true, true, true, false, false, false, false, false] rfl rfl (any_of HT_.out (by kernel_rfl)) (fun _ _ _ h => h) (Or.inl ⟨by rfl, ?_⟩) ?_ ?_
                        rotate_left
                        · intro w'
                          go_simp
                          with_reducible rfl
                        rotate_left
                        · simp only [Act.put, List.setIfInBounds_toArray, List.set_cons_zero, List.set_cons_succ, i64_w, i32_w]
                          rfl
                        refine pure_ (i := 10) (N := some 63) (v := ?_) (a' := ?_) #[true, true, true, true, true, false, false, true, true, true, true, false, false, false, false] rfl rfl (any_of HT_.out (by kernel_rfl)) (fun _ _ _ h => h) (Or.inl ⟨by rfl, ?_⟩) ?_ ?_
                        rotate_left
                        · intro w'
                          go_simp
                          with_reducible rfl
                        rotate_left
                        · simp only [Act.put, List.setIfInBounds_toArray, List.set_cons_zero, List.set_cons_succ, i64_w, i32_w]
                          rfl
                        refine pure_ (i := 11) (N := some 64) (v := ?_) (a' := ?_) #[true, true, true, true, true, false, false, true, true, true, true, true, false, false, false] rfl rfl (any_of HT_.out (by kernel_rfl)) (fun _ _ _ h => h) (Or.inl ⟨by rfl, ?_⟩) ?_ ?_
                        rotate_left
                        · intro w'
                          go_simp
                          with_reducible rfl
                        rotate_left
                        · simp only [Act.put, List.setIfInBounds_toArray, List.set_cons_zero, List.set_cons_succ, i64_w, i32_w]
                          rfl
                        refine take_ (i := 5) (N := some 58) (v := ?_) (a' := ?_) #[true, true, true, true, true, true, false, true, true, true, true, true, false, false, false] rfl rfl (take_ofW HT_.out HW_.out (by kernel_rfl)) (fun _ _ _ h => h) (Or.inl ⟨by rfl, ?_⟩) hHeld ?_ ?_
                        rotate_left
                        · rintro w' ⟨s0, s1, s2, s3⟩
                          go_simp
                          with_reducible rfl
                        rotate_left
                        · simp only [Act.put, List.setIfInBounds_toArray, List.set_cons_zero, List.set_cons_succ, i64_w, i32_w]
                          rfl
                        refine take_ (i := 12) (N := some 65) (v := ?_) (a' := ?_) #[true, true, true, true, true, true, false, true, true, true, true, true, true, false, false] rfl rfl (take_ofW HT_.out HW_.out (by kernel_rfl)) (fun _ _ _ h => h) (Or.inl ⟨by rfl, ?_⟩) hHeld ?_ ?_
                        rotate_left
                        · rintro w' ⟨s0, s1, s2, s3⟩
                          go_simp
                          with_reducible rfl
                        rotate_left
                        · simp only [Act.put, List.setIfInBounds_toArray, List.set_cons_zero, List.set_cons_succ, i64_w, i32_w]
                          rfl
                        refine one_ (i := 6) (N := some 59) #[true, true, true, true, true, true, true, true, true, true, true, true, true, false, false] rfl rfl (one_of HT_.out (by kernel_rfl)) (by decide) (fun K hK => ?_)
                        refine goes_ Try.func17 (by kernel_rfl) rfl #[.pointer (some ⟨g188, 0, none⟩), .int .i64 ((rd_T31 l1 x7_2).f1)] (by rfl) rfl rfl (by (try simp only [List.map_toArray, List.map_cons, List.map_nil]); first | done | rfl | (simp only [List.length_drop, List.length_take]; rfl)) ?_
                        with_reducible refine (field_Reader_Take.calls g188 x189000_2 x189001_2 x189002_2 ((rd_T31 l1 x7_2).f1) t204 t205 t206 t207 w _ ?side1 ?side2 A26.out).mono ?_
                        (case side1 => repeat (first | (with_reducible first | exact HI188.out | apply IsS53.alloc | apply IsS53.drewN | apply IsS53.drew | apply IsS53.set_0 | apply IsS53.set_1 | apply IsS53.set_2) | exact HI188.out))
                        (case side2 => repeat (first | (with_reducible first | exact HB.out | apply below_alloc | apply pw_below_drewN | apply below_drew1 | refine below_set ?_ (IsS53.ge HI188.out) | refine below_set ?_ (IsS55.ge HI191.out)) | exact HB.out))
                        rintro e w30 ⟨rfl, hi, hb, hk⟩
                        refine ⟨_, rfl, ?_⟩
                        have n0_ := Aside0.mk ((show IsS55 w _ g191 x192000_2 x192001_2 from ⟨KeepBut.blk hk (show IsS55 w _ g191 x192000_2 x192001_2 from by repeat (first | (with_reducible first | exact HI191.out | apply IsS55.alloc | apply IsS55.drewN | apply IsS55.drew | apply IsS55.set_0 | apply IsS55.set_1) | exact HI191.out)).1 (fun e_ => by have h1_ := (show IsS55 w _ g191 x192000_2 x192001_2 from by repeat (first | (with_reducible first | exact HI191.out | apply IsS55.alloc | apply IsS55.drewN | apply IsS55.drew | apply IsS55.set_0 | apply IsS55.set_1) | exact HI191.out)).1; have h2_ := (show IsS53 w _ g188 x189000_2 x189001_2 x189002_2 from by repeat (first | (with_reducible first | exact HI188.out | apply IsS53.alloc | apply IsS53.drewN | apply IsS53.drew | apply IsS53.set_0 | apply IsS53.set_1 | apply IsS53.set_2) | exact HI188.out)).1; rw [e_] at h1_; rw [h1_] at h2_; injection h2_ with h2_; injection h2_ with _ h3_; exact absurd h3_ (by decide)) (by simp), (show IsS55 w _ g191 x192000_2 x192001_2 from by repeat (first | (with_reducible first | exact HI191.out | apply IsS55.alloc | apply IsS55.drewN | apply IsS55.drew | apply IsS55.set_0 | apply IsS55.set_1) | exact HI191.out)).2⟩))
                        have n1_ := Aside0.mk (hb)
                        have n2_ := Aside0.mk (hi)
                        clear HI191
                        clear HB
                        clear HI188
                        have HI191 := n0_
                        have HB := n1_
                        have HI188 := n2_
                        clear n0_ n1_ n2_
                        (try clear hb)
                        (try clear hb2)
                        (try clear hk)
                        (try clear hi)
                        refine hK.out _ _ ⟨((HB.out.cell (World.block_lt_of_cell? w _ hw203_0)).trans hw203_0), ((HB.out.cell (World.block_lt_of_cell? w _ hw203_1)).trans hw203_1), ((HB.out.cell (World.block_lt_of_cell? w _ hw208_0)).trans hw208_0), ((HB.out.cell (World.block_lt_of_cell? w _ hw208_1)).trans hw208_1)⟩ (fun hHeld => ?_)
                        clear hK K
                        refine norm_ (a' := ?_) ?_ ?_
                        rotate_left
                        · show Act.put _ (some 59) _ = _
                          simp only [Act.put, List.setIfInBounds_toArray, List.set_cons_zero, List.set_cons_succ, i64_w, i32_w]
                          rfl
                        refine one_ (i := 13) (N := some 66) #[true, true, true, true, true, true, true, true, true, true, true, true, true, true, false] rfl rfl (one_of HT_.out (by kernel_rfl)) (by decide) (fun K hK => ?_)
                        refine goes_ Try.func18 (by kernel_rfl) rfl #[.pointer (some ⟨g191, 0, none⟩), .int .i64 ((rd_T31 l1 x7_2).f1)] (by rfl) rfl rfl (by (try simp only [List.map_toArray, List.map_cons, List.map_nil]); first | done | rfl | (simp only [List.length_drop, List.length_take]; rfl)) ?_
                        with_reducible refine (intrusionref01_Reader_Take.calls g191 x192000_2 x192001_2 ((rd_T31 l1 x7_2).f1) t209 t210 t211 w _ ?side1 ?side2 A27.out).mono ?_
                        (case side1 => repeat (first | (with_reducible first | exact HI191.out | apply IsS55.alloc | apply IsS55.drewN | apply IsS55.drew | apply IsS55.set_0 | apply IsS55.set_1) | exact HI191.out))
                        (case side2 => repeat (first | (with_reducible first | exact HB.out | apply below_alloc | apply pw_below_drewN | apply below_drew1 | refine below_set ?_ (IsS53.ge HI188.out) | refine below_set ?_ (IsS55.ge HI191.out)) | exact HB.out))
                        rintro e w31 ⟨rfl, hi, hb, hk⟩
                        refine ⟨_, rfl, ?_⟩
                        have n0_ := Aside0.mk ((show IsS53 w _ g188 t205 t206 t207 from ⟨KeepBut.blk hk (show IsS53 w _ g188 t205 t206 t207 from by repeat (first | (with_reducible first | exact HI188.out | apply IsS53.alloc | apply IsS53.drewN | apply IsS53.drew | apply IsS53.set_0 | apply IsS53.set_1 | apply IsS53.set_2) | exact HI188.out)).1 (fun e_ => by have h1_ := (show IsS53 w _ g188 t205 t206 t207 from by repeat (first | (with_reducible first | exact HI188.out | apply IsS53.alloc | apply IsS53.drewN | apply IsS53.drew | apply IsS53.set_0 | apply IsS53.set_1 | apply IsS53.set_2) | exact HI188.out)).1; have h2_ := (show IsS55 w _ g191 x192000_2 x192001_2 from by repeat (first | (with_reducible first | exact HI191.out | apply IsS55.alloc | apply IsS55.drewN | apply IsS55.drew | apply IsS55.set_0 | apply IsS55.set_1) | exact HI191.out)).1; rw [e_] at h1_; rw [h1_] at h2_; injection h2_ with h2_; injection h2_ with _ h3_; exact absurd h3_ (by decide)) (by simp), (show IsS53 w _ g188 t205 t206 t207 from by repeat (first | (with_reducible first | exact HI188.out | apply IsS53.alloc | apply IsS53.drewN | apply IsS53.drew | apply IsS53.set_0 | apply IsS53.set_1 | apply IsS53.set_2) | exact HI188.out)).2⟩))
                        have n1_ := Aside0.mk (hb)
                        have n2_ := Aside0.mk (hi)
                        clear HI188
                        clear HB
                        clear HI191
                        have HI188 := n0_
                        have HB := n1_
                        have HI191 := n2_
                        clear n0_ n1_ n2_
                        (try clear hb)
                        (try clear hb2)
                        (try clear hk)
                        (try clear hi)
                        refine hK.out _ _ ⟨((HB.out.cell (World.block_lt_of_cell? w _ hw203_0)).trans hw203_0), ((HB.out.cell (World.block_lt_of_cell? w _ hw203_1)).trans hw203_1), ((HB.out.cell (World.block_lt_of_cell? w _ hw208_0)).trans hw208_0), ((HB.out.cell (World.block_lt_of_cell? w _ hw208_1)).trans hw208_1)⟩ (fun hHeld => ?_)
                        clear hK K
                        refine norm_ (a' := ?_) ?_ ?_
                        rotate_left
                        · show Act.put _ (some 66) _ = _
                          simp only [Act.put, List.setIfInBounds_toArray, List.set_cons_zero, List.set_cons_succ, i64_w, i32_w]
                          rfl
                        refine pure_ (i := 14) (N := some 67) (v := ?_) (a' := ?_) #[true, true, true, true, true, true, true, true, true, true, true, true, true, true, true] rfl rfl (any_of HT_.out (by kernel_rfl)) (fun _ _ _ h => h) (Or.inl ⟨by rfl, ?_⟩) ?_ ?_
                        rotate_left
                        · intro w'
                          go_simp
                          with_reducible rfl
                        rotate_left
                        · simp only [Act.put, List.setIfInBounds_toArray, List.set_cons_zero, List.set_cons_succ, i64_w, i32_w]
                          rfl
                        refine done_ (done_of HT_.out (by kernel_rfl)) ?_
                        try go_wp2
                        go_meet
                        case rel => exact ⟨_, (t205), (t206), (t207), (t210), (t211), H', ⟨by have := HJ2.out; have := HK2.out; first | omega | exact Nat.le_refl _⟩, ⟨by repeat (first | (with_reducible first | exact HI188.out | apply IsS53.alloc | apply IsS53.drewN | apply IsS53.drew | apply IsS53.set_0 | apply IsS53.set_1 | apply IsS53.set_2) | exact HI188.out)⟩, ⟨by repeat (first | (with_reducible first | exact HI191.out | apply IsS55.alloc | apply IsS55.drewN | apply IsS55.drew | apply IsS55.set_0 | apply IsS55.set_1) | exact HI191.out)⟩, ⟨by repeat (first | (with_reducible first | exact HB.out | apply below_alloc | apply pw_below_drewN | apply below_drew1 | refine below_set ?_ (IsS53.ge HI188.out) | refine below_set ?_ (IsS55.ge HI191.out)) | exact HB.out)⟩⟩
                      · rw [if_neg c28] at H
                        have c28b0 : (t204.toList == t209.toList) = false := beq_eq_false_iff_ne.mpr c28
                        have c28b1 : (t204.toList != t209.toList) = true := bne_iff_ne.mpr c28
                        obtain rfl := Option.some.inj H
                        try go_wp2
                        have n0_ := Aside0.mk (IsS53.drew HI188.out)
                        have n1_ := Aside0.mk (IsS55.drew HI191.out)
                        have n2_ := Aside0.mk (below_drew1 HB.out)
                        clear HI188
                        clear HI191
                        clear HB
                        have HI188 := n0_
                        have HI191 := n1_
                        have HB := n2_
                        clear n0_ n1_ n2_
                        have p203 : 0 ≤ (x7_2 : Int) := of_decide_eq_true (by first | (with_reducible assumption) | assumption)
                        have q203 : x7_2 < (l1.length : Int) := of_decide_eq_true (by first | (with_reducible assumption) | assumption)
                        obtain ⟨ad203, e203, hx203_0, hx203_1⟩ := at_T31 HR1.out x7_2 p203 q203
                        have hw203_1 := hx203_1
                        have hw203_0 := hx203_0
                        obtain rfl : ad193 = ad203 := (by injection e203)
                        replace hx203_0 := (HB.out.cell (World.block_lt_of_cell? w _ hx203_0)).trans hx203_0
                        replace hx203_1 := (HB.out.cell (World.block_lt_of_cell? w _ hx203_1)).trans hx203_1
                        replace p203 := eq_true p203
                        replace q203 := eq_true q203
                        have p208 : 0 ≤ (x7_2 : Int) := of_decide_eq_true (by first | (with_reducible assumption) | assumption)
                        have q208 : x7_2 < (l1.length : Int) := of_decide_eq_true (by first | (with_reducible assumption) | assumption)
                        obtain ⟨ad208, e208, hx208_0, hx208_1⟩ := at_T31 HR1.out x7_2 p208 q208
                        have hw208_1 := hx208_1
                        have hw208_0 := hx208_0
                        obtain rfl : ad193 = ad208 := (by injection e208)
                        replace hx208_0 := (HB.out.cell (World.block_lt_of_cell? w _ hx208_0)).trans hx208_0
                        replace hx208_1 := (HB.out.cell (World.block_lt_of_cell? w _ hx208_1)).trans hx208_1
                        replace p208 := eq_true p208
                        replace q208 := eq_true q208
                        refine start_ (n := 15) (S := fun w' => w'.cell? (ad193.add ((x7_2).toNat * 2)) = some (.int .i64 ((rd_T31 l1 x7_2).f0)) ∧ w'.cell? ⟨(ad193.add ((x7_2).toNat * 2)).block, (ad193.add ((x7_2).toNat * 2)).off + 1, none⟩ = some (.int .i64 ((rd_T31 l1 x7_2).f1)) ∧ w'.cell? (ad193.add ((x7_2).toNat * 2)) = some (.int .i64 ((rd_T31 l1 x7_2).f0)) ∧ w'.cell? ⟨(ad193.add ((x7_2).toNat * 2)).block, (ad193.add ((x7_2).toNat * 2)).off + 1, none⟩ = some (.int .i64 ((rd_T31 l1 x7_2).f1))) (ds := []) #[false, false, false, false, false, false, false, false, false, false, false, false, false, false, false] (by kernel_rfl) rfl rfl ⟨((HB.out.cell (World.block_lt_of_cell? w _ hw203_0)).trans hw203_0), ((HB.out.cell (World.block_lt_of_cell? w _ hw203_1)).trans hw203_1), ((HB.out.cell (World.block_lt_of_cell? w _ hw208_0)).trans hw208_0), ((HB.out.cell (World.block_lt_of_cell? w _ hw208_1)).trans hw208_1)⟩ (fun hHeld => ?_); refine with_tabW intrusionlaw01_FieldReads.tab15 intrusionlaw01_FieldReads.bits15 (fun HT_ HW_ => ?_)
                        generalize wr.drew = w32 at HI188 HI191 HB hx203_0 hx203_1 hx208_0 hx208_1 hHeld ⊢
                        refine pure_ (i := 0) (N := some 53) (v := ?_) (a' := ?_) #[true, false, false, false, false, false, false, false, false, false, false, false, false, false, false] rfl rfl (any_of HT_.out (by kernel_rfl)) (fun _ _ _ h => h) (Or.inl ⟨by rfl, ?_⟩) ?_ ?_
                        rotate_left
                        · intro w'
                          go_simp
                          with_reducible rfl
                        rotate_left
                        · simp only [Act.put, List.setIfInBounds_toArray, List.set_cons_zero, List.set_cons_succ, i64_w, i32_w]
                          rfl
                        refine pure_ (i := 1) (N := some 54) (v := ?_) (a' := ?_) #[true, true, false, false, false, false, false, false, false, false, false, false, false, false, false] rfl rfl (any_of HT_.out (by kernel_rfl)) (fun _ _ _ h => h) (Or.inl ⟨by rfl, ?_⟩) ?_ ?_
                        rotate_left
                        · intro w'
                          go_simp
                          with_reducible rfl
                        rotate_left
                        · simp only [Act.put, List.setIfInBounds_toArray, List.set_cons_zero, List.set_cons_succ, i64_w, i32_w]
                          rfl
                        refine pure_ (i := 2) (N := some 55) (v := ?_) (a' := ?_) #[true, true, true, false, false, false, false, false, false, false, false, false, false, false, false] rfl rfl (any_of HT_.out (by kernel_rfl)) (fun _ _ _ h => h) (Or.inl ⟨by rfl, ?_⟩) ?_ ?_
                        rotate_left
                        · intro w'
                          go_simp
                          with_reducible rfl
                        rotate_left
                        · simp only [Act.put, List.setIfInBounds_toArray, List.set_cons_zero, List.set_cons_succ, i64_w, i32_w]
                          rfl
                        refine pure_ (i := 3) (N := some 56) (v := ?_) (a' := ?_) #[true, true, true, true, false, false, false, false, false, false, false, false, false, false, false] rfl rfl (any_of HT_.out (by kernel_rfl)) (fun _ _ _ h => h) (Or.inl ⟨by rfl, ?_⟩) ?_ ?_
                        rotate_left
                        · intro w'
                          go_simp
                          with_reducible rfl
                        rotate_left
                        · simp only [Act.put, List.setIfInBounds_toArray, List.set_cons_zero, List.set_cons_succ, i64_w, i32_w]
                          rfl
                        refine pure_ (i := 4) (N := some 57) (v := ?_) (a' := ?_) #[true, true, true, true, true, false, false, false, false, false, false, false, false, false, false] rfl rfl (any_of HT_.out (by kernel_rfl)) (fun _ _ _ h => h) (Or.inl ⟨by rfl, ?_⟩) ?_ ?_
                        rotate_left
                        · intro w'
                          go_simp
                          with_reducible rfl
                        rotate_left
                        · simp only [Act.put, List.setIfInBounds_toArray, List.set_cons_zero, List.set_cons_succ, i64_w, i32_w]
                          rfl
                        refine pure_ (i := 7) (N := some 60) (v := ?_) (a' := ?_) #[true, true, true, true, true, false, false, true, false, false, false, false, false, false, false] rfl rfl (any_of HT_.out (by kernel_rfl)) (fun _ _ _ h => h) (Or.inl ⟨by rfl, ?_⟩) ?_ ?_
                        rotate_left
                        · intro w'
                          go_simp
                          with_reducible rfl
                        rotate_left
                        · simp only [Act.put, List.setIfInBounds_toArray, List.set_cons_zero, List.set_cons_succ, i64_w, i32_w]
                          rfl
                        refine pure_ (i := 8) (N := some 61) (v := ?_) (a' := ?_) #[true, true, true, true, true, false, false, true, true, false, false, false, false, false, false] rfl rfl (any_of HT_.out (by kernel_rfl)) (fun _ _ _ h => h) (Or.inl ⟨by rfl, ?_⟩) ?_ ?_
                        rotate_left
                        · intro w'
                          go_simp
                          with_reducible rfl
                        rotate_left
                        · simp only [Act.put, List.setIfInBounds_toArray, List.set_cons_zero, List.set_cons_succ, i64_w, i32_w]
                          rfl
                        refine pure_ (i := 9) (N := some 62) (v := ?_) (a' := ?_) #[true, true, true, true, true, false, false, true, true, true, false, false, false, false, false] rfl rfl (any_of HT_.out (by kernel_rfl)) (fun _ _ _ h => h) (Or.inl ⟨by rfl, ?_⟩) ?_ ?_
                        rotate_left
                        · intro w'
                          go_simp
                          with_reducible rfl
                        rotate_left
                        · simp only [Act.put, List.setIfInBounds_toArray, List.set_cons_zero, List.set_cons_succ, i64_w, i32_w]
                          rfl
                        refine pure_ (i := 10) (N := some 63) (v := ?_) (a' := ?_) #[true, true, true, true, true, false, false, true, true, true, true, false, false, false, false] rfl rfl (any_of HT_.out (by kernel_rfl)) (fun _ _ _ h => h) (Or.inl ⟨by rfl, ?_⟩) ?_ ?_
                        rotate_left
                        · intro w'
                          go_simp
                          with_reducible rfl
                        rotate_left
                        · simp only [Act.put, List.setIfInBounds_toArray, List.set_cons_zero, List.set_cons_succ, i64_w, i32_w]
                          rfl
                        refine pure_ (i := 11) (N := some 64) (v := ?_) (a' := ?_) #[true, true, true, true, true, false, false, true, true, true, true, true, false, false, false] rfl rfl (any_of HT_.out (by kernel_rfl)) (fun _ _ _ h => h) (Or.inl ⟨by rfl, ?_⟩) ?_ ?_
                        rotate_left
                        · intro w'
                          go_simp
                          with_reducible rfl
                        rotate_left
                        · simp only [Act.put, List.setIfInBounds_toArray, List.set_cons_zero, List.set_cons_succ, i64_w, i32_w]
                          rfl
                        refine take_ (i := 5) (N := some 58) (v := ?_) (a' := ?_) #[true, true, true, true, true, true, false, true, true, true, true, true, false, false, false] rfl rfl (take_ofW HT_.out HW_.out (by kernel_rfl)) (fun _ _ _ h => h) (Or.inl ⟨by rfl, ?_⟩) hHeld ?_ ?_
                        rotate_left
                        · rintro w' ⟨s0, s1, s2, s3⟩
                          go_simp
                          with_reducible rfl
                        rotate_left
                        · simp only [Act.put, List.setIfInBounds_toArray, List.set_cons_zero, List.set_cons_succ, i64_w, i32_w]
                          rfl
                        refine take_ (i := 12) (N := some 65) (v := ?_) (a' := ?_) #[true, true, true, true, true, true, false, true, true, true, true, true, true, false, false] rfl rfl (take_ofW HT_.out HW_.out (by kernel_rfl)) (fun _ _ _ h => h) (Or.inl ⟨by rfl, ?_⟩) hHeld ?_ ?_
                        rotate_left
                        · rintro w' ⟨s0, s1, s2, s3⟩
                          go_simp
                          with_reducible rfl
                        rotate_left
                        · simp only [Act.put, List.setIfInBounds_toArray, List.set_cons_zero, List.set_cons_succ, i64_w, i32_w]
                          rfl
                        refine one_ (i := 6) (N := some 59) #[true, true, true, true, true, true, true, true, true, true, true, true, true, false, false] rfl rfl (one_of HT_.out (by kernel_rfl)) (by decide) (fun K hK => ?_)
                        refine goes_ Try.func17 (by kernel_rfl) rfl #[.pointer (some ⟨g188, 0, none⟩), .int .i64 ((rd_T31 l1 x7_2).f1)] (by rfl) rfl rfl (by (try simp only [List.map_toArray, List.map_cons, List.map_nil]); first | done | rfl | (simp only [List.length_drop, List.length_take]; rfl)) ?_
                        with_reducible refine (field_Reader_Take.calls g188 x189000_2 x189001_2 x189002_2 ((rd_T31 l1 x7_2).f1) t204 t205 t206 t207 w _ ?side1 ?side2 A26.out).mono ?_
                        (case side1 => repeat (first | (with_reducible first | exact HI188.out | apply IsS53.alloc | apply IsS53.drewN | apply IsS53.drew | apply IsS53.set_0 | apply IsS53.set_1 | apply IsS53.set_2) | exact HI188.out))
                        (case side2 => repeat (first | (with_reducible first | exact HB.out | apply below_alloc | apply pw_below_drewN | apply below_drew1 | refine below_set ?_ (IsS53.ge HI188.out) | refine below_set ?_ (IsS55.ge HI191.out)) | exact HB.out))
                        rintro e w33 ⟨rfl, hi, hb, hk⟩
                        refine ⟨_, rfl, ?_⟩
                        have n0_ := Aside0.mk ((show IsS55 w _ g191 x192000_2 x192001_2 from ⟨KeepBut.blk hk (show IsS55 w _ g191 x192000_2 x192001_2 from by repeat (first | (with_reducible first | exact HI191.out | apply IsS55.alloc | apply IsS55.drewN | apply IsS55.drew | apply IsS55.set_0 | apply IsS55.set_1) | exact HI191.out)).1 (fun e_ => by have h1_ := (show IsS55 w _ g191 x192000_2 x192001_2 from by repeat (first | (with_reducible first | exact HI191.out | apply IsS55.alloc | apply IsS55.drewN | apply IsS55.drew | apply IsS55.set_0 | apply IsS55.set_1) | exact HI191.out)).1; have h2_ := (show IsS53 w _ g188 x189000_2 x189001_2 x189002_2 from by repeat (first | (with_reducible first | exact HI188.out | apply IsS53.alloc | apply IsS53.drewN | apply IsS53.drew | apply IsS53.set_0 | apply IsS53.set_1 | apply IsS53.set_2) | exact HI188.out)).1; rw [e_] at h1_; rw [h1_] at h2_; injection h2_ with h2_; injection h2_ with _ h3_; exact absurd h3_ (by decide)) (by simp), (show IsS55 w _ g191 x192000_2 x192001_2 from by repeat (first | (with_reducible first | exact HI191.out | apply IsS55.alloc | apply IsS55.drewN | apply IsS55.drew | apply IsS55.set_0 | apply IsS55.set_1) | exact HI191.out)).2⟩))
                        have n1_ := Aside0.mk (hb)
                        have n2_ := Aside0.mk (hi)
                        clear HI191
                        clear HB
                        clear HI188
                        have HI191 := n0_
                        have HB := n1_
                        have HI188 := n2_
                        clear n0_ n1_ n2_
                        (try clear hb)
                        (try clear hb2)
                        (try clear hk)
                        (try clear hi)
                        refine hK.out _ _ ⟨((HB.out.cell (World.block_lt_of_cell? w _ hw203_0)).trans hw203_0), ((HB.out.cell (World.block_lt_of_cell? w _ hw203_1)).trans hw203_1), ((HB.out.cell (World.block_lt_of_cell? w _ hw208_0)).trans hw208_0), ((HB.out.cell (World.block_lt_of_cell? w _ hw208_1)).trans hw208_1)⟩ (fun hHeld => ?_)
                        clear hK K
                        refine norm_ (a' := ?_) ?_ ?_
                        rotate_left
                        · show Act.put _ (some 59) _ = _
                          simp only [Act.put, List.setIfInBounds_toArray, List.set_cons_zero, List.set_cons_succ, i64_w, i32_w]
                          rfl
                        refine one_ (i := 13) (N := some 66) #[true, true, true, true, true, true, true, true, true, true, true, true, true, true, false] rfl rfl (one_of HT_.out (by kernel_rfl)) (by decide) (fun K hK => ?_)
                        refine goes_ Try.func18 (by kernel_rfl) rfl #[.pointer (some ⟨g191, 0, none⟩), .int .i64 ((rd_T31 l1 x7_2).f1)] (by rfl) rfl rfl (by (try simp only [List.map_toArray, List.map_cons, List.map_nil]); first | done | rfl | (simp only [List.length_drop, List.length_take]; rfl)) ?_
                        with_reducible refine (intrusionref01_Reader_Take.calls g191 x192000_2 x192001_2 ((rd_T31 l1 x7_2).f1) t209 t210 t211 w _ ?side1 ?side2 A27.out).mono ?_
                        (case side1 => repeat (first | (with_reducible first | exact HI191.out | apply IsS55.alloc | apply IsS55.drewN | apply IsS55.drew | apply IsS55.set_0 | apply IsS55.set_1) | exact HI191.out))
                        (case side2 => repeat (first | (with_reducible first | exact HB.out | apply below_alloc | apply pw_below_drewN | apply below_drew1 | refine below_set ?_ (IsS53.ge HI188.out) | refine below_set ?_ (IsS55.ge HI191.out)) | exact HB.out))
                        rintro e w34 ⟨rfl, hi, hb, hk⟩
                        refine ⟨_, rfl, ?_⟩
                        have n0_ := Aside0.mk ((show IsS53 w _ g188 t205 t206 t207 from ⟨KeepBut.blk hk (show IsS53 w _ g188 t205 t206 t207 from by repeat (first | (with_reducible first | exact HI188.out | apply IsS53.alloc | apply IsS53.drewN | apply IsS53.drew | apply IsS53.set_0 | apply IsS53.set_1 | apply IsS53.set_2) | exact HI188.out)).1 (fun e_ => by have h1_ := (show IsS53 w _ g188 t205 t206 t207 from by repeat (first | (with_reducible first | exact HI188.out | apply IsS53.alloc | apply IsS53.drewN | apply IsS53.drew | apply IsS53.set_0 | apply IsS53.set_1 | apply IsS53.set_2) | exact HI188.out)).1; have h2_ := (show IsS55 w _ g191 x192000_2 x192001_2 from by repeat (first | (with_reducible first | exact HI191.out | apply IsS55.alloc | apply IsS55.drewN | apply IsS55.drew | apply IsS55.set_0 | apply IsS55.set_1) | exact HI191.out)).1; rw [e_] at h1_; rw [h1_] at h2_; injection h2_ with h2_; injection h2_ with _ h3_; exact absurd h3_ (by decide)) (by simp), (show IsS53 w _ g188 t205 t206 t207 from by repeat (first | (with_reducible first | exact HI188.out | apply IsS53.alloc | apply IsS53.drewN | apply IsS53.drew | apply IsS53.set_0 | apply IsS53.set_1 | apply IsS53.set_2) | exact HI188.out)).2⟩))
                        have n1_ := Aside0.mk (hb)
                        have n2_ := Aside0.mk (hi)
                        clear HI188
                        clear HB
                        clear HI191
                        have HI188 := n0_
                        have HB := n1_
                        have HI191 := n2_
                        clear n0_ n1_ n2_
                        (try clear hb)
                        (try clear hb2)
                        (try clear hk)
                        (try clear hi)
                        refine hK.out _ _ ⟨((HB.out.cell (World.block_lt_of_cell? w _ hw203_0)).trans hw203_0), ((HB.out.cell (World.block_lt_of_cell? w _ hw203_1)).trans hw203_1), ((HB.out.cell (World.block_lt_of_cell? w _ hw208_0)).trans hw208_0), ((HB.out.cell (World.block_lt_of_cell? w _ hw208_1)).trans hw208_1)⟩ (fun hHeld => ?_)
                        clear hK K
                        refine norm_ (a' := ?_) ?_ ?_
                        rotate_left
                        · show Act.put _ (some 66) _ = _
                          simp only [Act.put, List.setIfInBounds_toArray, List.set_cons_zero, List.set_cons_succ, i64_w, i32_w]
                          rfl
                        refine pure_ (i := 14) (N := some 67) (v := ?_) (a' := ?_) #[true, true, true, true, true, true, true, true, true, true, true, true, true, true, true] rfl rfl (any_of HT_.out (by kernel_rfl)) (fun _ _ _ h => h) (Or.inl ⟨by rfl, ?_⟩) ?_ ?_
                        rotate_left
                        · intro w'
                          go_simp
                          with_reducible rfl
                        rotate_left
                        · simp only [Act.put, List.setIfInBounds_toArray, List.set_cons_zero, List.set_cons_succ, i64_w, i32_w]
                          rfl
                        refine done_ (done_of HT_.out (by kernel_rfl)) ?_
                        try go_wp2
                        go_ret
                        exact ⟨by first | rfl | (simp [errW_none, errW_some] <;> rfl) | (simp [*, errW_none, errW_some] <;> rfl), by repeat (first | (with_reducible first | exact HB.out | apply below_alloc | apply pw_below_drewN | apply below_drew1 | refine below_set ?_ (IsS53.ge HI188.out) | refine below_set ?_ (IsS55.ge HI191.out)) | exact HB.out)⟩
                    · rw [if_neg c25] at H
                      have c25b0 : (((rd_T31 l1 x7_2).f0) == 1) = false := beq_eq_false_iff_ne.mpr c25
                      have c25b1 : (((rd_T31 l1 x7_2).f0) != 1) = true := bne_iff_ne.mpr c25
                      by_cases c35 : ((rd_T31 l1 x7_2).f0) = 2
                      · rw [if_pos c35] at H
                        have c35b0 : (((rd_T31 l1 x7_2).f0) == 2) = true := beq_iff_eq.mpr c35
                        have c35b1 : (((rd_T31 l1 x7_2).f0) != 2) = false := bne_eq_false_iff_eq.mpr c35
                        clear c35
                        replace H := Option.bind_eq_some_iff.mp H
                        obtain ⟨⟨t212, t213, t214, t215⟩, A360, H⟩ := H
                        replace H : ((intrusionref01_Reader_Rest.f x192000_2 x192001_2).bind fun bt216 => (if t212.toList = bt216.1.toList then (intrusionlaw01_FieldReads.j2 k2 l1 x7_2 t213 t214 t215 bt216.2.1 bt216.2.2) else (some false))) = some r := H
                        have A36 := Aside0.mk A360
                        clear A360
                        replace H := Option.bind_eq_some_iff.mp H
                        obtain ⟨⟨t216, t217, t218⟩, A370, H⟩ := H
                        replace H : (if t212.toList = t216.toList then (intrusionlaw01_FieldReads.j2 k2 l1 x7_2 t213 t214 t215 t217 t218) else (some false)) = some r := H
                        have A37 := Aside0.mk A370
                        clear A370
                        by_cases c38 : t212.toList = t216.toList
                        · rw [if_pos c38] at H
                          have c38b0 : (t212.toList == t216.toList) = true := beq_iff_eq.mpr c38
                          have c38b1 : (t212.toList != t216.toList) = false := bne_eq_false_iff_eq.mpr c38
                          clear c38
                          have H' := Aside0.mk H
                          clear H
                          go_wp2_with (first | ((with_reducible refine gate_callee (f := 19) rfl ?_); refine goesL_ (some 71) rfl rfl Try.func19 (by kernel_rfl) rfl #[.pointer (some ⟨g188, 0, none⟩)] rfl (by (try simp only [List.map_toArray, List.map_cons, List.map_nil]); first | done | rfl | (simp only [List.length_drop, List.length_take]; rfl)) ?_; (with_reducible refine (field_Reader_Rest.calls g188 x189000_2 x189001_2 x189002_2 t212 t213 t214 t215 w _ ?side1 ?side2 A36.out).mono ?_); (case side1 => repeat (first | (with_reducible first | exact HI188.out | apply IsS53.alloc | apply IsS53.drewN | apply IsS53.drew | apply IsS53.set_0 | apply IsS53.set_1 | apply IsS53.set_2) | exact HI188.out)); (case side2 => repeat (first | (with_reducible first | exact HB.out | apply below_alloc | apply pw_below_drewN | apply below_drew1 | refine below_set ?_ (IsS53.ge HI188.out) | refine below_set ?_ (IsS55.ge HI191.out)) | exact HB.out)); rintro e w39 ⟨rfl, hi, hb, hk⟩; refine ⟨_, rfl, ?_⟩; have n0_ := Aside0.mk ((show IsS55 w _ g191 x192000_2 x192001_2 from ⟨KeepBut.blk hk (show IsS55 w _ g191 x192000_2 x192001_2 from by repeat (first | (with_reducible first | exact HI191.out | apply IsS55.alloc | apply IsS55.drewN | apply IsS55.drew | apply IsS55.set_0 | apply IsS55.set_1) | exact HI191.out)).1 (fun e_ => by have h1_ := (show IsS55 w _ g191 x192000_2 x192001_2 from by repeat (first | (with_reducible first | exact HI191.out | apply IsS55.alloc | apply IsS55.drewN | apply IsS55.drew | apply IsS55.set_0 | apply IsS55.set_1) | exact HI191.out)).1; have h2_ := (show IsS53 w _ g188 x189000_2 x189001_2 x189002_2 from by repeat (first | (with_reducible first | exact HI188.out | apply IsS53.alloc | apply IsS53.drewN | apply IsS53.drew | apply IsS53.set_0 | apply IsS53.set_1 | apply IsS53.set_2) | exact HI188.out)).1; rw [e_] at h1_; rw [h1_] at h2_; injection h2_ with h2_; injection h2_ with _ h3_; exact absurd h3_ (by decide)) (by simp), (show IsS55 w _ g191 x192000_2 x192001_2 from by repeat (first | (with_reducible first | exact HI191.out | apply IsS55.alloc | apply IsS55.drewN | apply IsS55.drew | apply IsS55.set_0 | apply IsS55.set_1) | exact HI191.out)).2⟩)); have n1_ := Aside0.mk (hb); have n2_ := Aside0.mk (hi); clear HI191; clear HB; clear HI188; have HI191 := n0_; have HB := n1_; have HI188 := n2_; clear n0_ n1_ n2_; (try clear hb); (try clear hb2); (try clear hk); (try clear hi)) | ((with_reducible refine gate_callee (f := 20) rfl ?_); refine goesL_ (some 73) rfl rfl Try.func20 (by kernel_rfl) rfl #[.pointer (some ⟨g191, 0, none⟩)] rfl (by (try simp only [List.map_toArray, List.map_cons, List.map_nil]); first | done | rfl | (simp only [List.length_drop, List.length_take]; rfl)) ?_; (with_reducible refine (intrusionref01_Reader_Rest.calls g191 x192000_2 x192001_2 t216 t217 t218 w _ ?side1 ?side2 A37.out).mono ?_); (case side1 => repeat (first | (with_reducible first | exact HI191.out | apply IsS55.alloc | apply IsS55.drewN | apply IsS55.drew | apply IsS55.set_0 | apply IsS55.set_1) | exact HI191.out)); (case side2 => repeat (first | (with_reducible first | exact HB.out | apply below_alloc | apply pw_below_drewN | apply below_drew1 | refine below_set ?_ (IsS53.ge HI188.out) | refine below_set ?_ (IsS55.ge HI191.out)) | exact HB.out)); rintro e w40 ⟨rfl, hi, hb, hk⟩; refine ⟨_, rfl, ?_⟩; have n0_ := Aside0.mk ((show IsS53 w _ g188 t213 t214 t215 from ⟨KeepBut.blk hk (show IsS53 w _ g188 t213 t214 t215 from by repeat (first | (with_reducible first | exact HI188.out | apply IsS53.alloc | apply IsS53.drewN | apply IsS53.drew | apply IsS53.set_0 | apply IsS53.set_1 | apply IsS53.set_2) | exact HI188.out)).1 (fun e_ => by have h1_ := (show IsS53 w _ g188 t213 t214 t215 from by repeat (first | (with_reducible first | exact HI188.out | apply IsS53.alloc | apply IsS53.drewN | apply IsS53.drew | apply IsS53.set_0 | apply IsS53.set_1 | apply IsS53.set_2) | exact HI188.out)).1; have h2_ := (show IsS55 w _ g191 x192000_2 x192001_2 from by repeat (first | (with_reducible first | exact HI191.out | apply IsS55.alloc | apply IsS55.drewN | apply IsS55.drew | apply IsS55.set_0 | apply IsS55.set_1) | exact HI191.out)).1; rw [e_] at h1_; rw [h1_] at h2_; injection h2_ with h2_; injection h2_ with _ h3_; exact absurd h3_ (by decide)) (by simp), (show IsS53 w _ g188 t213 t214 t215 from by repeat (first | (with_reducible first | exact HI188.out | apply IsS53.alloc | apply IsS53.drewN | apply IsS53.drew | apply IsS53.set_0 | apply IsS53.set_1 | apply IsS53.set_2) | exact HI188.out)).2⟩)); have n1_ := Aside0.mk (hb); have n2_ := Aside0.mk (hi); clear HI188; clear HB; clear HI191; have HI188 := n0_; have HB := n1_; have HI191 := n2_; clear n0_ n1_ n2_; (try clear hb); (try clear hb2); (try clear hk); (try clear hi)))
                          go_meet
                          case rel => exact ⟨_, (t213), (t214), (t215), (t217), (t218), H', ⟨by have := HJ2.out; have := HK2.out; first | omega | exact Nat.le_refl _⟩, ⟨by repeat (first | (with_reducible first | exact HI188.out | apply IsS53.alloc | apply IsS53.drewN | apply IsS53.drew | apply IsS53.set_0 | apply IsS53.set_1 | apply IsS53.set_2) | exact HI188.out)⟩, ⟨by repeat (first | (with_reducible first | exact HI191.out | apply IsS55.alloc | apply IsS55.drewN | apply IsS55.drew | apply IsS55.set_0 | apply IsS55.set_1) | exact HI191.out)⟩, ⟨by repeat (first | (with_reducible first | exact HB.out | apply below_alloc | apply pw_below_drewN | apply below_drew1 | refine below_set ?_ (IsS53.ge HI188.out) | refine below_set ?_ (IsS55.ge HI191.out)) | exact HB.out)⟩⟩
                        · rw [if_neg c38] at H
                          have c38b0 : (t212.toList == t216.toList) = false := beq_eq_false_iff_ne.mpr c38
                          have c38b1 : (t212.toList != t216.toList) = true := bne_iff_ne.mpr c38
                          obtain rfl := Option.some.inj H
                          go_wp2_with (first | ((with_reducible refine gate_callee (f := 19) rfl ?_); refine goesL_ (some 71) rfl rfl Try.func19 (by kernel_rfl) rfl #[.pointer (some ⟨g188, 0, none⟩)] rfl (by (try simp only [List.map_toArray, List.map_cons, List.map_nil]); first | done | rfl | (simp only [List.length_drop, List.length_take]; rfl)) ?_; (with_reducible refine (field_Reader_Rest.calls g188 x189000_2 x189001_2 x189002_2 t212 t213 t214 t215 w _ ?side1 ?side2 A36.out).mono ?_); (case side1 => repeat (first | (with_reducible first | exact HI188.out | apply IsS53.alloc | apply IsS53.drewN | apply IsS53.drew | apply IsS53.set_0 | apply IsS53.set_1 | apply IsS53.set_2) | exact HI188.out)); (case side2 => repeat (first | (with_reducible first | exact HB.out | apply below_alloc | apply pw_below_drewN | apply below_drew1 | refine below_set ?_ (IsS53.ge HI188.out) | refine below_set ?_ (IsS55.ge HI191.out)) | exact HB.out)); rintro e w41 ⟨rfl, hi, hb, hk⟩; refine ⟨_, rfl, ?_⟩; have n0_ := Aside0.mk ((show IsS55 w _ g191 x192000_2 x192001_2 from ⟨KeepBut.blk hk (show IsS55 w _ g191 x192000_2 x192001_2 from by repeat (first | (with_reducible first | exact HI191.out | apply IsS55.alloc | apply IsS55.drewN | apply IsS55.drew | apply IsS55.set_0 | apply IsS55.set_1) | exact HI191.out)).1 (fun e_ => by have h1_ := (show IsS55 w _ g191 x192000_2 x192001_2 from by repeat (first | (with_reducible first | exact HI191.out | apply IsS55.alloc | apply IsS55.drewN | apply IsS55.drew | apply IsS55.set_0 | apply IsS55.set_1) | exact HI191.out)).1; have h2_ := (show IsS53 w _ g188 x189000_2 x189001_2 x189002_2 from by repeat (first | (with_reducible first | exact HI188.out | apply IsS53.alloc | apply IsS53.drewN | apply IsS53.drew | apply IsS53.set_0 | apply IsS53.set_1 | apply IsS53.set_2) | exact HI188.out)).1; rw [e_] at h1_; rw [h1_] at h2_; injection h2_ with h2_; injection h2_ with _ h3_; exact absurd h3_ (by decide)) (by simp), (show IsS55 w _ g191 x192000_2 x192001_2 from by repeat (first | (with_reducible first | exact HI191.out | apply IsS55.alloc | apply IsS55.drewN | apply IsS55.drew | apply IsS55.set_0 | apply IsS55.set_1) | exact HI191.out)).2⟩)); have n1_ := Aside0.mk (hb); have n2_ := Aside0.mk (hi); clear HI191; clear HB; clear HI188; have HI191 := n0_; have HB := n1_; have HI188 := n2_; clear n0_ n1_ n2_; (try clear hb); (try clear hb2); (try clear hk); (try clear hi)) | ((with_reducible refine gate_callee (f := 20) rfl ?_); refine goesL_ (some 73) rfl rfl Try.func20 (by kernel_rfl) rfl #[.pointer (some ⟨g191, 0, none⟩)] rfl (by (try simp only [List.map_toArray, List.map_cons, List.map_nil]); first | done | rfl | (simp only [List.length_drop, List.length_take]; rfl)) ?_; (with_reducible refine (intrusionref01_Reader_Rest.calls g191 x192000_2 x192001_2 t216 t217 t218 w _ ?side1 ?side2 A37.out).mono ?_); (case side1 => repeat (first | (with_reducible first | exact HI191.out | apply IsS55.alloc | apply IsS55.drewN | apply IsS55.drew | apply IsS55.set_0 | apply IsS55.set_1) | exact HI191.out)); (case side2 => repeat (first | (with_reducible first | exact HB.out | apply below_alloc | apply pw_below_drewN | apply below_drew1 | refine below_set ?_ (IsS53.ge HI188.out) | refine below_set ?_ (IsS55.ge HI191.out)) | exact HB.out)); rintro e w42 ⟨rfl, hi, hb, hk⟩; refine ⟨_, rfl, ?_⟩; have n0_ := Aside0.mk ((show IsS53 w _ g188 t213 t214 t215 from ⟨KeepBut.blk hk (show IsS53 w _ g188 t213 t214 t215 from by repeat (first | (with_reducible first | exact HI188.out | apply IsS53.alloc | apply IsS53.drewN | apply IsS53.drew | apply IsS53.set_0 | apply IsS53.set_1 | apply IsS53.set_2) | exact HI188.out)).1 (fun e_ => by have h1_ := (show IsS53 w _ g188 t213 t214 t215 from by repeat (first | (with_reducible first | exact HI188.out | apply IsS53.alloc | apply IsS53.drewN | apply IsS53.drew | apply IsS53.set_0 | apply IsS53.set_1 | apply IsS53.set_2) | exact HI188.out)).1; have h2_ := (show IsS55 w _ g191 x192000_2 x192001_2 from by repeat (first | (with_reducible first | exact HI191.out | apply IsS55.alloc | apply IsS55.drewN | apply IsS55.drew | apply IsS55.set_0 | apply IsS55.set_1) | exact HI191.out)).1; rw [e_] at h1_; rw [h1_] at h2_; injection h2_ with h2_; injection h2_ with _ h3_; exact absurd h3_ (by decide)) (by simp), (show IsS53 w _ g188 t213 t214 t215 from by repeat (first | (with_reducible first | exact HI188.out | apply IsS53.alloc | apply IsS53.drewN | apply IsS53.drew | apply IsS53.set_0 | apply IsS53.set_1 | apply IsS53.set_2) | exact HI188.out)).2⟩)); have n1_ := Aside0.mk (hb); have n2_ := Aside0.mk (hi); clear HI188; clear HB; clear HI191; have HI188 := n0_; have HB := n1_; have HI191 := n2_; clear n0_ n1_ n2_; (try clear hb); (try clear hb2); (try clear hk); (try clear hi)))
                          go_ret
                          exact ⟨by first | rfl | (simp [errW_none, errW_some] <;> rfl) | (simp [*, errW_none, errW_some] <;> rfl), by repeat (first | (with_reducible first | exact HB.out | apply below_alloc | apply pw_below_drewN | apply below_drew1 | refine below_set ?_ (IsS53.ge HI188.out) | refine below_set ?_ (IsS55.ge HI191.out)) | exact HB.out)⟩
                      · rw [if_neg c35] at H
                        have c35b0 : (((rd_T31 l1 x7_2).f0) == 2) = false := beq_eq_false_iff_ne.mpr c35
                        have c35b1 : (((rd_T31 l1 x7_2).f0) != 2) = true := bne_iff_ne.mpr c35
                        have H' := Aside0.mk H
                        clear H
                        go_wp2
                        go_meet
                        case rel => exact ⟨_, (x189000_2), (x189001_2), (x189002_2), (x192000_2), (x192001_2), H', ⟨by have := HJ2.out; have := HK2.out; first | omega | exact Nat.le_refl _⟩, ⟨by repeat (first | (with_reducible first | exact HI188.out | apply IsS53.alloc | apply IsS53.drewN | apply IsS53.drew | apply IsS53.set_0 | apply IsS53.set_1 | apply IsS53.set_2) | exact HI188.out)⟩, ⟨by repeat (first | (with_reducible first | exact HI191.out | apply IsS55.alloc | apply IsS55.drewN | apply IsS55.drew | apply IsS55.set_0 | apply IsS55.set_1) | exact HI191.out)⟩, ⟨by repeat (first | (with_reducible first | exact HB.out | apply below_alloc | apply pw_below_drewN | apply below_drew1 | refine below_set ?_ (IsS53.ge HI188.out) | refine below_set ?_ (IsS55.ge HI191.out)) | exact HB.out)⟩⟩
                case rest =>
                  clear HC14
                  try clear c1
                  try clear c2
                  try clear p2
                  try clear q2
                  try clear hx2
                  try clear c3
                  try clear c15
                  try clear c15b0
                  try clear c15b1
                  try clear c16
                  try clear c17
                  try clear c18
                  try clear c19
                  try clear c20
                  try clear p20
                  try clear q20
                  try clear hx20
                  try clear c25
                  try clear c25b0
                  try clear c25b1
                  try clear c28
                  try clear c28b0
                  try clear c28b1
                  try clear c35
                  try clear c35b0
                  try clear c35b1
                  try clear c38
                  try clear c38b0
                  try clear c38b1
                  try clear hx203_0
                  try clear hx203_1
                  try clear hx208_0
                  try clear hx208_1
                  try clear p203
                  try clear p208
                  try clear q203
                  try clear q208
                  obtain ⟨kq, x189000_13, x189001_13, x189002_13, x192000_13, x192001_13, HA, HJ13, HI188, HI191, HB⟩ := hcut
                  cases kq with
                  | zero => exact absurd HA.out (by simp [intrusionlaw01_FieldReads.j2])
                  | succ kj13 =>
                    have H := HA.out
                    clear HA
                    simp only [intrusionlaw01_FieldReads.j2] at H
                    replace H := Option.bind_eq_some_iff.mp H
                    obtain ⟨⟨t219, t220, t221, t222⟩, A430, H⟩ := H
                    replace H : ((intrusionref01_Reader_Left.f x192000_13 x192001_13).bind fun bt223 => (if t219 = bt223.1 then ((field_Reader_Err.f t220 t221 t222).bind fun bt226 => ((intrusionref01_Reader_Err.f bt223.2.1 bt223.2.2).bind fun bt230 => (if bt226.1 = bt230.1 then (intrusionlaw01_FieldReads.l0 kj13 l1 (wrap64 (x7_2 + 1)) bt226.2.1 bt226.2.2.1 bt226.2.2.2 bt230.2.1 bt230.2.2) else (some false)))) else (some false))) = some r := H
                    have A43 := Aside0.mk A430
                    clear A430
                    replace H := Option.bind_eq_some_iff.mp H
                    obtain ⟨⟨t223, t224, t225⟩, A440, H⟩ := H
                    replace H : (if t219 = t223 then ((field_Reader_Err.f t220 t221 t222).bind fun bt226 => ((intrusionref01_Reader_Err.f t224 t225).bind fun bt230 => (if bt226.1 = bt230.1 then (intrusionlaw01_FieldReads.l0 kj13 l1 (wrap64 (x7_2 + 1)) bt226.2.1 bt226.2.2.1 bt226.2.2.2 bt230.2.1 bt230.2.2) else (some false)))) else (some false)) = some r := H
                    have A44 := Aside0.mk A440
                    clear A440
                    by_cases c45 : t219 = t223
                    · rw [if_pos c45] at H
                      have c45b0 : (t219 == t223) = true := beq_iff_eq.mpr c45
                      have c45b1 : (t219 != t223) = false := bne_eq_false_iff_eq.mpr c45
                      clear c45
                      replace H := Option.bind_eq_some_iff.mp H
                      obtain ⟨⟨t226, t227, t228, t229⟩, A460, H⟩ := H
                      replace H : ((intrusionref01_Reader_Err.f t224 t225).bind fun bt230 => (if t226 = bt230.1 then (intrusionlaw01_FieldReads.l0 kj13 l1 (wrap64 (x7_2 + 1)) t227 t228 t229 bt230.2.1 bt230.2.2) else (some false))) = some r := H
                      have A46 := Aside0.mk A460
                      clear A460
                      replace H := Option.bind_eq_some_iff.mp H
                      obtain ⟨⟨t230, t231, t232⟩, A470, H⟩ := H
                      replace H : (if t226 = t230 then (intrusionlaw01_FieldReads.l0 kj13 l1 (wrap64 (x7_2 + 1)) t227 t228 t229 t231 t232) else (some false)) = some r := H
                      have A47 := Aside0.mk A470
                      clear A470
                      by_cases c48 : t226 = t230
                      · rw [if_pos c48] at H
                        have c48b0 : (t226 == t230) = true := beq_iff_eq.mpr c48
                        have c48b1 : (t226 != t230) = false := bne_eq_false_iff_eq.mpr c48
                        clear c48
                        have H' := Aside0.mk H
                        clear H
                        go_wp2_with (first | ((with_reducible refine gate_callee (f := 21) rfl ?_); refine goesL_ (some 76) rfl rfl Try.func21 (by kernel_rfl) rfl #[.pointer (some ⟨g188, 0, none⟩)] rfl (by (try simp only [List.map_toArray, List.map_cons, List.map_nil]); first | done | rfl | (simp only [List.length_drop, List.length_take]; rfl)) ?_; (with_reducible refine (field_Reader_Left.calls g188 x189000_13 x189001_13 x189002_13 t219 t220 t221 t222 w _ ?side1 ?side2 A43.out).mono ?_); (case side1 => repeat (first | (with_reducible first | exact HI188.out | apply IsS53.alloc | apply IsS53.drewN | apply IsS53.drew | apply IsS53.set_0 | apply IsS53.set_1 | apply IsS53.set_2) | exact HI188.out)); (case side2 => repeat (first | (with_reducible first | exact HB.out | apply below_alloc | apply pw_below_drewN | apply below_drew1 | refine below_set ?_ (IsS53.ge HI188.out) | refine below_set ?_ (IsS55.ge HI191.out)) | exact HB.out)); rintro e w49 ⟨rfl, hi, hb, hk⟩; refine ⟨_, rfl, ?_⟩; have n0_ := Aside0.mk ((show IsS55 w _ g191 x192000_13 x192001_13 from ⟨KeepBut.blk hk (show IsS55 w _ g191 x192000_13 x192001_13 from by repeat (first | (with_reducible first | exact HI191.out | apply IsS55.alloc | apply IsS55.drewN | apply IsS55.drew | apply IsS55.set_0 | apply IsS55.set_1) | exact HI191.out)).1 (fun e_ => by have h1_ := (show IsS55 w _ g191 x192000_13 x192001_13 from by repeat (first | (with_reducible first | exact HI191.out | apply IsS55.alloc | apply IsS55.drewN | apply IsS55.drew | apply IsS55.set_0 | apply IsS55.set_1) | exact HI191.out)).1; have h2_ := (show IsS53 w _ g188 x189000_13 x189001_13 x189002_13 from by repeat (first | (with_reducible first | exact HI188.out | apply IsS53.alloc | apply IsS53.drewN | apply IsS53.drew | apply IsS53.set_0 | apply IsS53.set_1 | apply IsS53.set_2) | exact HI188.out)).1; rw [e_] at h1_; rw [h1_] at h2_; injection h2_ with h2_; injection h2_ with _ h3_; exact absurd h3_ (by decide)) (by simp), (show IsS55 w _ g191 x192000_13 x192001_13 from by repeat (first | (with_reducible first | exact HI191.out | apply IsS55.alloc | apply IsS55.drewN | apply IsS55.drew | apply IsS55.set_0 | apply IsS55.set_1) | exact HI191.out)).2⟩)); have n1_ := Aside0.mk (hb); have n2_ := Aside0.mk (hi); clear HI191; clear HB; clear HI188; have HI191 := n0_; have HB := n1_; have HI188 := n2_; clear n0_ n1_ n2_; (try clear hb); (try clear hb2); (try clear hk); (try clear hi)) | ((with_reducible refine gate_callee (f := 22) rfl ?_); refine goesL_ (some 78) rfl rfl Try.func22 (by kernel_rfl) rfl #[.pointer (some ⟨g191, 0, none⟩)] rfl (by (try simp only [List.map_toArray, List.map_cons, List.map_nil]); first | done | rfl | (simp only [List.length_drop, List.length_take]; rfl)) ?_; (with_reducible refine (intrusionref01_Reader_Left.calls g191 x192000_13 x192001_13 t223 t224 t225 w _ ?side1 ?side2 A44.out).mono ?_); (case side1 => repeat (first | (with_reducible first | exact HI191.out | apply IsS55.alloc | apply IsS55.drewN | apply IsS55.drew | apply IsS55.set_0 | apply IsS55.set_1) | exact HI191.out)); (case side2 => repeat (first | (with_reducible first | exact HB.out | apply below_alloc | apply pw_below_drewN | apply below_drew1 | refine below_set ?_ (IsS53.ge HI188.out) | refine below_set ?_ (IsS55.ge HI191.out)) | exact HB.out)); rintro e w50 ⟨rfl, hi, hb, hk⟩; refine ⟨_, rfl, ?_⟩; have n0_ := Aside0.mk ((show IsS53 w _ g188 t220 t221 t222 from ⟨KeepBut.blk hk (show IsS53 w _ g188 t220 t221 t222 from by repeat (first | (with_reducible first | exact HI188.out | apply IsS53.alloc | apply IsS53.drewN | apply IsS53.drew | apply IsS53.set_0 | apply IsS53.set_1 | apply IsS53.set_2) | exact HI188.out)).1 (fun e_ => by have h1_ := (show IsS53 w _ g188 t220 t221 t222 from by repeat (first | (with_reducible first | exact HI188.out | apply IsS53.alloc | apply IsS53.drewN | apply IsS53.drew | apply IsS53.set_0 | apply IsS53.set_1 | apply IsS53.set_2) | exact HI188.out)).1; have h2_ := (show IsS55 w _ g191 x192000_13 x192001_13 from by repeat (first | (with_reducible first | exact HI191.out | apply IsS55.alloc | apply IsS55.drewN | apply IsS55.drew | apply IsS55.set_0 | apply IsS55.set_1) | exact HI191.out)).1; rw [e_] at h1_; rw [h1_] at h2_; injection h2_ with h2_; injection h2_ with _ h3_; exact absurd h3_ (by decide)) (by simp), (show IsS53 w _ g188 t220 t221 t222 from by repeat (first | (with_reducible first | exact HI188.out | apply IsS53.alloc | apply IsS53.drewN | apply IsS53.drew | apply IsS53.set_0 | apply IsS53.set_1 | apply IsS53.set_2) | exact HI188.out)).2⟩)); have n1_ := Aside0.mk (hb); have n2_ := Aside0.mk (hi); clear HI188; clear HB; clear HI191; have HI188 := n0_; have HB := n1_; have HI191 := n2_; clear n0_ n1_ n2_; (try clear hb); (try clear hb2); (try clear hk); (try clear hi)) | (go_at_call 23; (with_reducible refine (field_Reader_Err.calls g188 t220 t221 t222 t226 t227 t228 t229 w _ ?side1 ?side2 A46.out).mono ?_); (case side1 => repeat (first | (with_reducible first | exact HI188.out | apply IsS53.alloc | apply IsS53.drewN | apply IsS53.drew | apply IsS53.set_0 | apply IsS53.set_1 | apply IsS53.set_2) | exact HI188.out)); (case side2 => repeat (first | (with_reducible first | exact HB.out | apply below_alloc | apply pw_below_drewN | apply below_drew1 | refine below_set ?_ (IsS53.ge HI188.out) | refine below_set ?_ (IsS55.ge HI191.out)) | exact HB.out)); rintro e w51 ⟨rfl, hi, hb, hk⟩; have n0_ := Aside0.mk ((show IsS55 w _ g191 t224 t225 from ⟨KeepBut.blk hk (show IsS55 w _ g191 t224 t225 from by repeat (first | (with_reducible first | exact HI191.out | apply IsS55.alloc | apply IsS55.drewN | apply IsS55.drew | apply IsS55.set_0 | apply IsS55.set_1) | exact HI191.out)).1 (fun e_ => by have h1_ := (show IsS55 w _ g191 t224 t225 from by repeat (first | (with_reducible first | exact HI191.out | apply IsS55.alloc | apply IsS55.drewN | apply IsS55.drew | apply IsS55.set_0 | apply IsS55.set_1) | exact HI191.out)).1; have h2_ := (show IsS53 w _ g188 t220 t221 t222 from by repeat (first | (with_reducible first | exact HI188.out | apply IsS53.alloc | apply IsS53.drewN | apply IsS53.drew | apply IsS53.set_0 | apply IsS53.set_1 | apply IsS53.set_2) | exact HI188.out)).1; rw [e_] at h1_; rw [h1_] at h2_; injection h2_ with h2_; injection h2_ with _ h3_; exact absurd h3_ (by decide)) (by simp), (show IsS55 w _ g191 t224 t225 from by repeat (first | (with_reducible first | exact HI191.out | apply IsS55.alloc | apply IsS55.drewN | apply IsS55.drew | apply IsS55.set_0 | apply IsS55.set_1) | exact HI191.out)).2⟩)); have n1_ := Aside0.mk (hb); have n2_ := Aside0.mk (hi); clear HI191; clear HB; clear HI188; have HI191 := n0_; have HB := n1_; have HI188 := n2_; clear n0_ n1_ n2_; (try clear hb); (try clear hb2); (try clear hk); (try clear hi)) | (go_at_call 24; (with_reducible refine (intrusionref01_Reader_Err.calls g191 t224 t225 t230 t231 t232 w _ ?side1 ?side2 A47.out).mono ?_); (case side1 => repeat (first | (with_reducible first | exact HI191.out | apply IsS55.alloc | apply IsS55.drewN | apply IsS55.drew | apply IsS55.set_0 | apply IsS55.set_1) | exact HI191.out)); (case side2 => repeat (first | (with_reducible first | exact HB.out | apply below_alloc | apply pw_below_drewN | apply below_drew1 | refine below_set ?_ (IsS53.ge HI188.out) | refine below_set ?_ (IsS55.ge HI191.out)) | exact HB.out)); rintro e w52 ⟨rfl, hi, hb, hk⟩; have n0_ := Aside0.mk ((show IsS53 w _ g188 t227 t228 t229 from ⟨KeepBut.blk hk (show IsS53 w _ g188 t227 t228 t229 from by repeat (first | (with_reducible first | exact HI188.out | apply IsS53.alloc | apply IsS53.drewN | apply IsS53.drew | apply IsS53.set_0 | apply IsS53.set_1 | apply IsS53.set_2) | exact HI188.out)).1 (fun e_ => by have h1_ := (show IsS53 w _ g188 t227 t228 t229 from by repeat (first | (with_reducible first | exact HI188.out | apply IsS53.alloc | apply IsS53.drewN | apply IsS53.drew | apply IsS53.set_0 | apply IsS53.set_1 | apply IsS53.set_2) | exact HI188.out)).1; have h2_ := (show IsS55 w _ g191 t224 t225 from by repeat (first | (with_reducible first | exact HI191.out | apply IsS55.alloc | apply IsS55.drewN | apply IsS55.drew | apply IsS55.set_0 | apply IsS55.set_1) | exact HI191.out)).1; rw [e_] at h1_; rw [h1_] at h2_; injection h2_ with h2_; injection h2_ with _ h3_; exact absurd h3_ (by decide)) (by simp), (show IsS53 w _ g188 t227 t228 t229 from by repeat (first | (with_reducible first | exact HI188.out | apply IsS53.alloc | apply IsS53.drewN | apply IsS53.drew | apply IsS53.set_0 | apply IsS53.set_1 | apply IsS53.set_2) | exact HI188.out)).2⟩)); have n1_ := Aside0.mk (hb); have n2_ := Aside0.mk (hi); clear HI188; clear HB; clear HI191; have HI188 := n0_; have HB := n1_; have HI191 := n2_; clear n0_ n1_ n2_; (try clear hb); (try clear hb2); (try clear hk); (try clear hi)))
                        go_roundg kj13
                        case measure => have := HJ2.out; have := HK2.out; have := HJ13.out; omega
                        case rel => exact ⟨(wrap64 (x7_2 + 1)), (t227), (t228), (t229), (t231), (t232), (by first | rfl | (simp; done) | (simp [*]; done)), H', ⟨by have := HJ2.out; have := HK2.out; have := HJ13.out; omega⟩, ⟨by repeat (first | (with_reducible first | exact HI188.out | apply IsS53.alloc | apply IsS53.drewN | apply IsS53.drew | apply IsS53.set_0 | apply IsS53.set_1 | apply IsS53.set_2) | exact HI188.out)⟩, ⟨by repeat (first | (with_reducible first | exact HI191.out | apply IsS55.alloc | apply IsS55.drewN | apply IsS55.drew | apply IsS55.set_0 | apply IsS55.set_1) | exact HI191.out)⟩, ⟨by repeat (first | (with_reducible first | exact HB.out | apply below_alloc | apply pw_below_drewN | apply below_drew1 | refine below_set ?_ (IsS53.ge HI188.out) | refine below_set ?_ (IsS55.ge HI191.out)) | exact HB.out)⟩⟩
                      · rw [if_neg c48] at H
                        have c48b0 : (t226 == t230) = false := beq_eq_false_iff_ne.mpr c48
                        have c48b1 : (t226 != t230) = true := bne_iff_ne.mpr c48
                        obtain rfl := Option.some.inj H
                        go_wp2_with (first | ((with_reducible refine gate_callee (f := 21) rfl ?_); refine goesL_ (some 76) rfl rfl Try.func21 (by kernel_rfl) rfl #[.pointer (some ⟨g188, 0, none⟩)] rfl (by (try simp only [List.map_toArray, List.map_cons, List.map_nil]); first | done | rfl | (simp only [List.length_drop, List.length_take]; rfl)) ?_; (with_reducible refine (field_Reader_Left.calls g188 x189000_13 x189001_13 x189002_13 t219 t220 t221 t222 w _ ?side1 ?side2 A43.out).mono ?_); (case side1 => repeat (first | (with_reducible first | exact HI188.out | apply IsS53.alloc | apply IsS53.drewN | apply IsS53.drew | apply IsS53.set_0 | apply IsS53.set_1 | apply IsS53.set_2) | exact HI188.out)); (case side2 => repeat (first | (with_reducible first | exact HB.out | apply below_alloc | apply pw_below_drewN | apply below_drew1 | refine below_set ?_ (IsS53.ge HI188.out) | refine below_set ?_ (IsS55.ge HI191.out)) | exact HB.out)); rintro e w53 ⟨rfl, hi, hb, hk⟩; refine ⟨_, rfl, ?_⟩; have n0_ := Aside0.mk ((show IsS55 w _ g191 x192000_13 x192001_13 from ⟨KeepBut.blk hk (show IsS55 w _ g191 x192000_13 x192001_13 from by repeat (first | (with_reducible first | exact HI191.out | apply IsS55.alloc | apply IsS55.drewN | apply IsS55.drew | apply IsS55.set_0 | apply IsS55.set_1) | exact HI191.out)).1 (fun e_ => by have h1_ := (show IsS55 w _ g191 x192000_13 x192001_13 from by repeat (first | (with_reducible first | exact HI191.out | apply IsS55.alloc | apply IsS55.drewN | apply IsS55.drew | apply IsS55.set_0 | apply IsS55.set_1) | exact HI191.out)).1; have h2_ := (show IsS53 w _ g188 x189000_13 x189001_13 x189002_13 from by repeat (first | (with_reducible first | exact HI188.out | apply IsS53.alloc | apply IsS53.drewN | apply IsS53.drew | apply IsS53.set_0 | apply IsS53.set_1 | apply IsS53.set_2) | exact HI188.out)).1; rw [e_] at h1_; rw [h1_] at h2_; injection h2_ with h2_; injection h2_ with _ h3_; exact absurd h3_ (by decide)) (by simp), (show IsS55 w _ g191 x192000_13 x192001_13 from by repeat (first | (with_reducible first | exact HI191.out | apply IsS55.alloc | apply IsS55.drewN | apply IsS55.drew | apply IsS55.set_0 | apply IsS55.set_1) | exact HI191.out)).2⟩)); have n1_ := Aside0.mk (hb); have n2_ := Aside0.mk (hi); clear HI191; clear HB; clear HI188; have HI191 := n0_; have HB := n1_; have HI188 := n2_; clear n0_ n1_ n2_; (try clear hb); (try clear hb2); (try clear hk); (try clear hi)) | ((with_reducible refine gate_callee (f := 22) rfl ?_); refine goesL_ (some 78) rfl rfl Try.func22 (by kernel_rfl) rfl #[.pointer (some ⟨g191, 0, none⟩)] rfl (by (try simp only [List.map_toArray, List.map_cons, List.map_nil]); first | done | rfl | (simp only [List.length_drop, List.length_take]; rfl)) ?_; (with_reducible refine (intrusionref01_Reader_Left.calls g191 x192000_13 x192001_13 t223 t224 t225 w _ ?side1 ?side2 A44.out).mono ?_); (case side1 => repeat (first | (with_reducible first | exact HI191.out | apply IsS55.alloc | apply IsS55.drewN | apply IsS55.drew | apply IsS55.set_0 | apply IsS55.set_1) | exact HI191.out)); (case side2 => repeat (first | (with_reducible first | exact HB.out | apply below_alloc | apply pw_below_drewN | apply below_drew1 | refine below_set ?_ (IsS53.ge HI188.out) | refine below_set ?_ (IsS55.ge HI191.out)) | exact HB.out)); rintro e w54 ⟨rfl, hi, hb, hk⟩; refine ⟨_, rfl, ?_⟩; have n0_ := Aside0.mk ((show IsS53 w _ g188 t220 t221 t222 from ⟨KeepBut.blk hk (show IsS53 w _ g188 t220 t221 t222 from by repeat (first | (with_reducible first | exact HI188.out | apply IsS53.alloc | apply IsS53.drewN | apply IsS53.drew | apply IsS53.set_0 | apply IsS53.set_1 | apply IsS53.set_2) | exact HI188.out)).1 (fun e_ => by have h1_ := (show IsS53 w _ g188 t220 t221 t222 from by repeat (first | (with_reducible first | exact HI188.out | apply IsS53.alloc | apply IsS53.drewN | apply IsS53.drew | apply IsS53.set_0 | apply IsS53.set_1 | apply IsS53.set_2) | exact HI188.out)).1; have h2_ := (show IsS55 w _ g191 x192000_13 x192001_13 from by repeat (first | (with_reducible first | exact HI191.out | apply IsS55.alloc | apply IsS55.drewN | apply IsS55.drew | apply IsS55.set_0 | apply IsS55.set_1) | exact HI191.out)).1; rw [e_] at h1_; rw [h1_] at h2_; injection h2_ with h2_; injection h2_ with _ h3_; exact absurd h3_ (by decide)) (by simp), (show IsS53 w _ g188 t220 t221 t222 from by repeat (first | (with_reducible first | exact HI188.out | apply IsS53.alloc | apply IsS53.drewN | apply IsS53.drew | apply IsS53.set_0 | apply IsS53.set_1 | apply IsS53.set_2) | exact HI188.out)).2⟩)); have n1_ := Aside0.mk (hb); have n2_ := Aside0.mk (hi); clear HI188; clear HB; clear HI191; have HI188 := n0_; have HB := n1_; have HI191 := n2_; clear n0_ n1_ n2_; (try clear hb); (try clear hb2); (try clear hk); (try clear hi)) | (go_at_call 23; (with_reducible refine (field_Reader_Err.calls g188 t220 t221 t222 t226 t227 t228 t229 w _ ?side1 ?side2 A46.out).mono ?_); (case side1 => repeat (first | (with_reducible first | exact HI188.out | apply IsS53.alloc | apply IsS53.drewN | apply IsS53.drew | apply IsS53.set_0 | apply IsS53.set_1 | apply IsS53.set_2) | exact HI188.out)); (case side2 => repeat (first | (with_reducible first | exact HB.out | apply below_alloc | apply pw_below_drewN | apply below_drew1 | refine below_set ?_ (IsS53.ge HI188.out) | refine below_set ?_ (IsS55.ge HI191.out)) | exact HB.out)); rintro e w55 ⟨rfl, hi, hb, hk⟩; have n0_ := Aside0.mk ((show IsS55 w _ g191 t224 t225 from ⟨KeepBut.blk hk (show IsS55 w _ g191 t224 t225 from by repeat (first | (with_reducible first | exact HI191.out | apply IsS55.alloc | apply IsS55.drewN | apply IsS55.drew | apply IsS55.set_0 | apply IsS55.set_1) | exact HI191.out)).1 (fun e_ => by have h1_ := (show IsS55 w _ g191 t224 t225 from by repeat (first | (with_reducible first | exact HI191.out | apply IsS55.alloc | apply IsS55.drewN | apply IsS55.drew | apply IsS55.set_0 | apply IsS55.set_1) | exact HI191.out)).1; have h2_ := (show IsS53 w _ g188 t220 t221 t222 from by repeat (first | (with_reducible first | exact HI188.out | apply IsS53.alloc | apply IsS53.drewN | apply IsS53.drew | apply IsS53.set_0 | apply IsS53.set_1 | apply IsS53.set_2) | exact HI188.out)).1; rw [e_] at h1_; rw [h1_] at h2_; injection h2_ with h2_; injection h2_ with _ h3_; exact absurd h3_ (by decide)) (by simp), (show IsS55 w _ g191 t224 t225 from by repeat (first | (with_reducible first | exact HI191.out | apply IsS55.alloc | apply IsS55.drewN | apply IsS55.drew | apply IsS55.set_0 | apply IsS55.set_1) | exact HI191.out)).2⟩)); have n1_ := Aside0.mk (hb); have n2_ := Aside0.mk (hi); clear HI191; clear HB; clear HI188; have HI191 := n0_; have HB := n1_; have HI188 := n2_; clear n0_ n1_ n2_; (try clear hb); (try clear hb2); (try clear hk); (try clear hi)) | (go_at_call 24; (with_reducible refine (intrusionref01_Reader_Err.calls g191 t224 t225 t230 t231 t232 w _ ?side1 ?side2 A47.out).mono ?_); (case side1 => repeat (first | (with_reducible first | exact HI191.out | apply IsS55.alloc | apply IsS55.drewN | apply IsS55.drew | apply IsS55.set_0 | apply IsS55.set_1) | exact HI191.out)); (case side2 => repeat (first | (with_reducible first | exact HB.out | apply below_alloc | apply pw_below_drewN | apply below_drew1 | refine below_set ?_ (IsS53.ge HI188.out) | refine below_set ?_ (IsS55.ge HI191.out)) | exact HB.out)); rintro e w56 ⟨rfl, hi, hb, hk⟩; have n0_ := Aside0.mk ((show IsS53 w _ g188 t227 t228 t229 from ⟨KeepBut.blk hk (show IsS53 w _ g188 t227 t228 t229 from by repeat (first | (with_reducible first | exact HI188.out | apply IsS53.alloc | apply IsS53.drewN | apply IsS53.drew | apply IsS53.set_0 | apply IsS53.set_1 | apply IsS53.set_2) | exact HI188.out)).1 (fun e_ => by have h1_ := (show IsS53 w _ g188 t227 t228 t229 from by repeat (first | (with_reducible first | exact HI188.out | apply IsS53.alloc | apply IsS53.drewN | apply IsS53.drew | apply IsS53.set_0 | apply IsS53.set_1 | apply IsS53.set_2) | exact HI188.out)).1; have h2_ := (show IsS55 w _ g191 t224 t225 from by repeat (first | (with_reducible first | exact HI191.out | apply IsS55.alloc | apply IsS55.drewN | apply IsS55.drew | apply IsS55.set_0 | apply IsS55.set_1) | exact HI191.out)).1; rw [e_] at h1_; rw [h1_] at h2_; injection h2_ with h2_; injection h2_ with _ h3_; exact absurd h3_ (by decide)) (by simp), (show IsS53 w _ g188 t227 t228 t229 from by repeat (first | (with_reducible first | exact HI188.out | apply IsS53.alloc | apply IsS53.drewN | apply IsS53.drew | apply IsS53.set_0 | apply IsS53.set_1 | apply IsS53.set_2) | exact HI188.out)).2⟩)); have n1_ := Aside0.mk (hb); have n2_ := Aside0.mk (hi); clear HI188; clear HB; clear HI191; have HI188 := n0_; have HB := n1_; have HI191 := n2_; clear n0_ n1_ n2_; (try clear hb); (try clear hb2); (try clear hk); (try clear hi)))
                        go_ret
                        exact ⟨by first | rfl | (simp [errW_none, errW_some] <;> rfl) | (simp [*, errW_none, errW_some] <;> rfl), by repeat (first | (with_reducible first | exact HB.out | apply below_alloc | apply pw_below_drewN | apply below_drew1 | refine below_set ?_ (IsS53.ge HI188.out) | refine below_set ?_ (IsS55.ge HI191.out)) | exact HB.out)⟩
                    · rw [if_neg c45] at H
                      have c45b0 : (t219 == t223) = false := beq_eq_false_iff_ne.mpr c45
                      have c45b1 : (t219 != t223) = true := bne_iff_ne.mpr c45
                      obtain rfl := Option.some.inj H
                      go_wp2_with (first | ((with_reducible refine gate_callee (f := 21) rfl ?_); refine goesL_ (some 76) rfl rfl Try.func21 (by kernel_rfl) rfl #[.pointer (some ⟨g188, 0, none⟩)] rfl (by (try simp only [List.map_toArray, List.map_cons, List.map_nil]); first | done | rfl | (simp only [List.length_drop, List.length_take]; rfl)) ?_; (with_reducible refine (field_Reader_Left.calls g188 x189000_13 x189001_13 x189002_13 t219 t220 t221 t222 w _ ?side1 ?side2 A43.out).mono ?_); (case side1 => repeat (first | (with_reducible first | exact HI188.out | apply IsS53.alloc | apply IsS53.drewN | apply IsS53.drew | apply IsS53.set_0 | apply IsS53.set_1 | apply IsS53.set_2) | exact HI188.out)); (case side2 => repeat (first | (with_reducible first | exact HB.out | apply below_alloc | apply pw_below_drewN | apply below_drew1 | refine below_set ?_ (IsS53.ge HI188.out) | refine below_set ?_ (IsS55.ge HI191.out)) | exact HB.out)); rintro e w57 ⟨rfl, hi, hb, hk⟩; refine ⟨_, rfl, ?_⟩; have n0_ := Aside0.mk ((show IsS55 w _ g191 x192000_13 x192001_13 from ⟨KeepBut.blk hk (show IsS55 w _ g191 x192000_13 x192001_13 from by repeat (first | (with_reducible first | exact HI191.out | apply IsS55.alloc | apply IsS55.drewN | apply IsS55.drew | apply IsS55.set_0 | apply IsS55.set_1) | exact HI191.out)).1 (fun e_ => by have h1_ := (show IsS55 w _ g191 x192000_13 x192001_13 from by repeat (first | (with_reducible first | exact HI191.out | apply IsS55.alloc | apply IsS55.drewN | apply IsS55.drew | apply IsS55.set_0 | apply IsS55.set_1) | exact HI191.out)).1; have h2_ := (show IsS53 w _ g188 x189000_13 x189001_13 x189002_13 from by repeat (first | (with_reducible first | exact HI188.out | apply IsS53.alloc | apply IsS53.drewN | apply IsS53.drew | apply IsS53.set_0 | apply IsS53.set_1 | apply IsS53.set_2) | exact HI188.out)).1; rw [e_] at h1_; rw [h1_] at h2_; injection h2_ with h2_; injection h2_ with _ h3_; exact absurd h3_ (by decide)) (by simp), (show IsS55 w _ g191 x192000_13 x192001_13 from by repeat (first | (with_reducible first | exact HI191.out | apply IsS55.alloc | apply IsS55.drewN | apply IsS55.drew | apply IsS55.set_0 | apply IsS55.set_1) | exact HI191.out)).2⟩)); have n1_ := Aside0.mk (hb); have n2_ := Aside0.mk (hi); clear HI191; clear HB; clear HI188; have HI191 := n0_; have HB := n1_; have HI188 := n2_; clear n0_ n1_ n2_; (try clear hb); (try clear hb2); (try clear hk); (try clear hi)) | ((with_reducible refine gate_callee (f := 22) rfl ?_); refine goesL_ (some 78) rfl rfl Try.func22 (by kernel_rfl) rfl #[.pointer (some ⟨g191, 0, none⟩)] rfl (by (try simp only [List.map_toArray, List.map_cons, List.map_nil]); first | done | rfl | (simp only [List.length_drop, List.length_take]; rfl)) ?_; (with_reducible refine (intrusionref01_Reader_Left.calls g191 x192000_13 x192001_13 t223 t224 t225 w _ ?side1 ?side2 A44.out).mono ?_); (case side1 => repeat (first | (with_reducible first | exact HI191.out | apply IsS55.alloc | apply IsS55.drewN | apply IsS55.drew | apply IsS55.set_0 | apply IsS55.set_1) | exact HI191.out)); (case side2 => repeat (first | (with_reducible first | exact HB.out | apply below_alloc | apply pw_below_drewN | apply below_drew1 | refine below_set ?_ (IsS53.ge HI188.out) | refine below_set ?_ (IsS55.ge HI191.out)) | exact HB.out)); rintro e w58 ⟨rfl, hi, hb, hk⟩; refine ⟨_, rfl, ?_⟩; have n0_ := Aside0.mk ((show IsS53 w _ g188 t220 t221 t222 from ⟨KeepBut.blk hk (show IsS53 w _ g188 t220 t221 t222 from by repeat (first | (with_reducible first | exact HI188.out | apply IsS53.alloc | apply IsS53.drewN | apply IsS53.drew | apply IsS53.set_0 | apply IsS53.set_1 | apply IsS53.set_2) | exact HI188.out)).1 (fun e_ => by have h1_ := (show IsS53 w _ g188 t220 t221 t222 from by repeat (first | (with_reducible first | exact HI188.out | apply IsS53.alloc | apply IsS53.drewN | apply IsS53.drew | apply IsS53.set_0 | apply IsS53.set_1 | apply IsS53.set_2) | exact HI188.out)).1; have h2_ := (show IsS55 w _ g191 x192000_13 x192001_13 from by repeat (first | (with_reducible first | exact HI191.out | apply IsS55.alloc | apply IsS55.drewN | apply IsS55.drew | apply IsS55.set_0 | apply IsS55.set_1) | exact HI191.out)).1; rw [e_] at h1_; rw [h1_] at h2_; injection h2_ with h2_; injection h2_ with _ h3_; exact absurd h3_ (by decide)) (by simp), (show IsS53 w _ g188 t220 t221 t222 from by repeat (first | (with_reducible first | exact HI188.out | apply IsS53.alloc | apply IsS53.drewN | apply IsS53.drew | apply IsS53.set_0 | apply IsS53.set_1 | apply IsS53.set_2) | exact HI188.out)).2⟩)); have n1_ := Aside0.mk (hb); have n2_ := Aside0.mk (hi); clear HI188; clear HB; clear HI191; have HI188 := n0_; have HB := n1_; have HI191 := n2_; clear n0_ n1_ n2_; (try clear hb); (try clear hb2); (try clear hk); (try clear hi)))
                      go_ret
                      exact ⟨by first | rfl | (simp [errW_none, errW_some] <;> rfl) | (simp [*, errW_none, errW_some] <;> rfl), by repeat (first | (with_reducible first | exact HB.out | apply below_alloc | apply pw_below_drewN | apply below_drew1 | refine below_set ?_ (IsS53.ge HI188.out) | refine below_set ?_ (IsS55.ge HI191.out)) | exact HB.out)⟩
              · rw [if_neg c13] at H
                exact absurd H (by simp)
            · rw [if_neg c12] at H
              have c12b0 : decide (x7_2 < (l1.length : Int)) = false := decide_eq_false c12
              clear c12
              replace H := Option.bind_eq_some_iff.mp H
              obtain ⟨t192, A590, H⟩ := H
              replace H : (some t192) = some r := H
              have A59 := Aside0.mk A590
              clear A590
              obtain rfl := Option.some.inj H
              go_wp2_with (first | ((with_reducible refine gate_callee (f := 12) rfl ?_); refine goesL_ (some 87) rfl rfl Try.func12 (by kernel_rfl) rfl #[] rfl (by (try simp only [List.map_toArray, List.map_cons, List.map_nil]); first | done | rfl | (simp only [List.length_drop, List.length_take]; rfl)) ?_; (with_reducible refine (intrusionlaw01_awake.calls k2  t192 _ A59.out).mono ?_); rintro e w60 ⟨rfl, hb⟩; refine ⟨_, rfl, ?_⟩; have n0_ := Aside0.mk (IsS53.below (by repeat (first | (with_reducible first | exact HI188.out | apply IsS53.alloc | apply IsS53.drewN | apply IsS53.drew | apply IsS53.set_0 | apply IsS53.set_1 | apply IsS53.set_2) | exact HI188.out)) hb); have n1_ := Aside0.mk (IsS55.below (by repeat (first | (with_reducible first | exact HI191.out | apply IsS55.alloc | apply IsS55.drewN | apply IsS55.drew | apply IsS55.set_0 | apply IsS55.set_1) | exact HI191.out)) hb); have n2_ := Aside0.mk (below_step (by repeat (first | (with_reducible first | exact HB.out | apply below_alloc | apply pw_below_drewN | apply below_drew1 | refine below_set ?_ (IsS53.ge HI188.out) | refine below_set ?_ (IsS55.ge HI191.out)) | exact HB.out)) hb); clear HI188; clear HI191; clear HB; have HI188 := n0_; have HI191 := n1_; have HB := n2_; clear n0_ n1_ n2_; (try clear hb); (try clear hb2); (try clear hk); (try clear hi)))
              go_ret
              exact ⟨by first | rfl | (simp [errW_none, errW_some] <;> rfl) | (simp [*, errW_none, errW_some] <;> rfl), by repeat (first | (with_reducible first | exact HB.out | apply below_alloc | apply pw_below_drewN | apply below_drew1 | refine below_set ?_ (IsS53.ge HI188.out) | refine below_set ?_ (IsS55.ge HI191.out)) | exact HB.out)⟩

end Go.Proofs.Ytmkhmlgihkaphaa.X
