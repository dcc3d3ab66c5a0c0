/- What the functions of the translation that this claim's statement reaches compute, each proved by its walk. Written by xprint.py, a program of this claim's author, run over the kit's printer. -/
import Derived.Test.YtdjbmfjeplheiaaDoorX0
import Derived.Test.YtdjbmfjeplheiaaDoorX6
import Derived.Test.YtdjbmfjeplheiaaDoorX8
namespace Go.Proofs.YtdjbmfjeplheiaaDoor.X
open Go.RowKit Go.Proofs.YtdjbmfjeplheiaaDoorW.PrintWords Go.Proofs.YtdjbmfjeplheiaaDoorW.PrintLast Go.Proofs.YtdjbmfjeplheiaaDoorW.PrintMore
attribute [local go_sem] max2_int min2_int max_two min_two max_three min_three max_four min_four   -- for this text's walks alone
set_option linter.unusedVariables false
set_option linter.unusedSimpArgs false

/-! ### intrusionlaw13_UdpDetects: function 6 -/
def intrusionlaw13_UdpDetects.j0 : Nat → ByteArray → Int → Int → Bool → Bool → Int → Int → Bool → Int → Int → Option (Bool)
 | 0, _, _, _, _, _, _, _, _, _, _ => none
 | k + 1, x7, x9, x10, x53, x281000, x281001, x281002, x281003, x281004, x281005 => if x53 = true then ((intrusionlaw13_awake.f k).bind fun t286 => (some t286)) else (if 0 ≤ x9 then (if x9 ≤ (x7.size : Int) then (if x9 < (x7.size : Int) then ((some (([(wrap64 ((wrap64 (bt x7 x9)) + x10)) % 256] : List Int) : List Int)).bind fun y287 => (if (x7.extract 0 (x9 : Int).toNat).size + (strOfNums y287).size ≤ 9223372036854775807 then (if 0 ≤ (wrap64 (x9 + 1)) then (if (wrap64 (x9 + 1)) ≤ (x7.size : Int) then (if ((x7.extract 0 (x9 : Int).toNat) ++ (strOfNums y287)).size + (x7.extract ((wrap64 (x9 + 1)) : Int).toNat x7.size).size ≤ 9223372036854775807 then ((udp_Decode.f k x281000 x281001 x281002 x281003 x281004 x281005 (((x7.extract 0 (x9 : Int).toNat) ++ (strOfNums y287)) ++ (x7.extract ((wrap64 (x9 + 1)) : Int).toNat x7.size))).bind fun bt290 => (if bt290.2.2.2 = 0 then (if x281000 = true then (none) else (if 6 < ((((x7.extract 0 (x9 : Int).toNat) ++ (strOfNums y287)) ++ (x7.extract ((wrap64 (x9 + 1)) : Int).toNat x7.size)).size : Int) then (if (bt (((x7.extract 0 (x9 : Int).toNat) ++ (strOfNums y287)) ++ (x7.extract ((wrap64 (x9 + 1)) : Int).toNat x7.size)) 6) = 0 then (if 7 < ((((x7.extract 0 (x9 : Int).toNat) ++ (strOfNums y287)) ++ (x7.extract ((wrap64 (x9 + 1)) : Int).toNat x7.size)).size : Int) then (if (bt (((x7.extract 0 (x9 : Int).toNat) ++ (strOfNums y287)) ++ (x7.extract ((wrap64 (x9 + 1)) : Int).toNat x7.size)) 7) = 0 then ((intrusionlaw13_awake.f k).bind fun t295 => (some t295)) else (none)) else (none)) else (none)) else (none))) else (if bt290.2.2.2 = 8 then ((intrusionlaw13_awake.f k).bind fun t296 => (some t296)) else (none)))) else (none)) else (none)) else (none)) else (none))) else (none)) else (none)) else (none))
def intrusionlaw13_UdpDetects.f (k : Nat) (a0_0 : Bool) (a0_1 : Int) (a0_2 : Int) (a0_3 : Bool) (a0_4 : Int) (a0_5 : Int) (a1_0 : Int) (a1_1 : Int) (a1_2 : ByteArray) (a2 : Int) : Option (Bool) := if (a1_2.size : Int) > 300 then ((intrusionlaw13_awake.f k).bind fun t282 => (some t282)) else ((udp_Encode.f k a0_0 a0_1 a0_2 a0_3 a0_4 a0_5 a1_0 a1_1 a1_2).bind fun bt283 => (if bt283.2 = 0 then (if (bt283.1.size : Int) < 8 then (none) else (if (bt283.1.size : Int) = 0 then (none) else (if (Int.tmod (wrap64 (a2)) (bt283.1.size : Int)) = 4 then (intrusionlaw13_UdpDetects.j0 k bt283.1 (Int.tmod (wrap64 (a2)) (bt283.1.size : Int)) (wrap64 (1 + (Int.tmod (wrap64 (Int.tdiv (wrap64 (a2)) 256)) 255))) true a0_0 a0_1 a0_2 a0_3 a0_4 a0_5) else (intrusionlaw13_UdpDetects.j0 k bt283.1 (Int.tmod (wrap64 (a2)) (bt283.1.size : Int)) (wrap64 (1 + (Int.tmod (wrap64 (Int.tdiv (wrap64 (a2)) 256)) 255))) ((Int.tmod (wrap64 (a2)) (bt283.1.size : Int)) == 5) a0_0 a0_1 a0_2 a0_3 a0_4 a0_5)))) else (if bt283.1.toList = ([] : List UInt8) then ((intrusionlaw13_awake.f k).bind fun t285 => (some t285)) else (none))))
theorem intrusionlaw13_UdpDetects.mono_l : ∀ k, (∀ y0 y1 y2 y3 y4 y5 y6 y7 y8 y9, LeO (intrusionlaw13_UdpDetects.j0 k y0 y1 y2 y3 y4 y5 y6 y7 y8 y9) (intrusionlaw13_UdpDetects.j0 (k + 1) y0 y1 y2 y3 y4 y5 y6 y7 y8 y9))
 | 0 => fun _ _ _ _ _ _ _ _ _ _ r h => by simp [intrusionlaw13_UdpDetects.j0] at h
 | k + 1 => by
  have ih0 := intrusionlaw13_UdpDetects.mono_l k
  ·intro y0 y1 y2 y3 y4 y5 y6 y7 y8 y9
   unfold intrusionlaw13_UdpDetects.j0
   repeat' first
   | (with_reducible exact ih0 _ _ _ _ _ _ _ _ _ _)
   | (with_reducible exact intrusionlaw13_awake.mono _)
   | (with_reducible exact udp_Decode.mono _ _ _ _ _ _ _ _)
   | (with_reducible exact udp_Encode.mono _ _ _ _ _ _ _ _ _ _)
   | (with_reducible exact LeO.refl _)
   | (with_reducible exact LeO.none _)
   | (with_reducible refine LeO.ite ?_ ?_)
   | (with_reducible refine LeO.bind ?_ (fun _ => ?_))
   | exact ih0 _ _ _ _ _ _ _ _ _ _
   | exact intrusionlaw13_awake.mono _
   | exact udp_Decode.mono _ _ _ _ _ _ _ _
   | exact udp_Encode.mono _ _ _ _ _ _ _ _ _ _
   | exact LeO.none _
   | refine LeO.ite ?_ ?_
   | refine LeO.bind ?_ (fun _ => ?_)
theorem intrusionlaw13_UdpDetects.mono : ∀ a0 a1 a2 a3 a4 a5 a6 a7 a8 a9 k, LeO (intrusionlaw13_UdpDetects.f k a0 a1 a2 a3 a4 a5 a6 a7 a8 a9) (intrusionlaw13_UdpDetects.f (k + 1) a0 a1 a2 a3 a4 a5 a6 a7 a8 a9) := by
 intro a0 a1 a2 a3 a4 a5 a6 a7 a8 a9 k
 have ih0 := intrusionlaw13_UdpDetects.mono_l k
 unfold intrusionlaw13_UdpDetects.f
 repeat' first
   | (with_reducible exact ih0 _ _ _ _ _ _ _ _ _ _)
   | (with_reducible exact intrusionlaw13_awake.mono _)
   | (with_reducible exact udp_Decode.mono _ _ _ _ _ _ _ _)
   | (with_reducible exact udp_Encode.mono _ _ _ _ _ _ _ _ _ _)
   | (with_reducible exact LeO.refl _)
   | (with_reducible exact LeO.none _)
   | (with_reducible refine LeO.ite ?_ ?_)
   | (with_reducible refine LeO.bind ?_ (fun _ => ?_))
   | exact ih0 _ _ _ _ _ _ _ _ _ _
   | exact intrusionlaw13_awake.mono _
   | exact udp_Decode.mono _ _ _ _ _ _ _ _
   | exact udp_Encode.mono _ _ _ _ _ _ _ _ _ _
   | exact LeO.none _
   | refine LeO.ite ?_ ?_
   | refine LeO.bind ?_ (fun _ => ?_)
def intrusionlaw13_UdpDetects.T12 : Bool × List (List Nat × List Nat) := (true, [([], []), ([], []), ([0, 1], [0, 1]), ([], []), ([], []), ([3, 4], [3, 4]), ([5], [5]), ([], []), ([6, 7], [6, 7]), ([8], [8]), ([9], [9]), ([10], [10]), ([2, 11], [2, 11]), ([], []), ([], []), ([14], [14]), ([13, 15], [13, 15]), ([12, 16], [12, 16]), ([17, 0, 1, 2, 3, 4, 5, 6, 7, 8, 9, 10, 11, 12, 13, 14, 15, 16, 17], [17])])
def intrusionlaw13_UdpDetects.B12 : List Nat := [0, 0, 3, 0, 0, 24, 56, 0, 248, 504, 1016, 2040, 4095, 0, 0, 16384, 57344, 131071, 262143]
theorem intrusionlaw13_UdpDetects.tab12 : rtab .any (opsOf Tryd.f6 12) = intrusionlaw13_UdpDetects.T12 := by kernel_rfl
theorem intrusionlaw13_UdpDetects.bits12 : waitsOk intrusionlaw13_UdpDetects.T12.2 intrusionlaw13_UdpDetects.B12 = true := by kernel_rfl
set_option maxHeartbeats 8000000 in
set_option maxRecDepth 100000 in
theorem intrusionlaw13_UdpDetects.calls (k : Nat) (a0_0 : Bool) (a0_1 : Int) (a0_2 : Int) (a0_3 : Bool) (a0_4 : Int) (a0_5 : Int) (a1_0 : Int) (a1_1 : Int) (a1_2 : ByteArray) (a2 : Int) (r : Bool) (w : World) (hLd : Laid w) (h : intrusionlaw13_UdpDetects.f k a0_0 a0_1 a0_2 a0_3 a0_4 a0_5 a1_0 a1_1 a1_2 a2 = some r) :
  Calls Tryd.prog 6 #[.agg #[.bool a0_0, .int .u64 a0_1, .int .u64 a0_2, .bool a0_3, .int .u64 a0_4, .int .u64 a0_5], .agg #[.int .i64 a1_0, .int .i64 a1_1, .string a1_2], .int .u16 a2] w fun e w' => e = .returned (.bool r) ∧ Below w.heap.size w w' := by
 have hu26 := Tryd.underlying26
 have hu29 := Tryd.underlying29
 have hu24 := Tryd.underlying24
 have HLD := Aside0.mk hLd
 clear hLd
 have HB := Aside0.mk (Below.refl w.heap.size w)
 have H : (if (a1_2.size : Int) > 300 then ((intrusionlaw13_awake.f k).bind fun t282 => (some t282)) else ((udp_Encode.f k a0_0 a0_1 a0_2 a0_3 a0_4 a0_5 a1_0 a1_1 a1_2).bind fun bt283 => (if bt283.2 = 0 then (if (bt283.1.size : Int) < 8 then (none) else (if (bt283.1.size : Int) = 0 then (none) else (if (Int.tmod (wrap64 (a2)) (bt283.1.size : Int)) = 4 then (intrusionlaw13_UdpDetects.j0 k bt283.1 (Int.tmod (wrap64 (a2)) (bt283.1.size : Int)) (wrap64 (1 + (Int.tmod (wrap64 (Int.tdiv (wrap64 (a2)) 256)) 255))) true a0_0 a0_1 a0_2 a0_3 a0_4 a0_5) else (intrusionlaw13_UdpDetects.j0 k bt283.1 (Int.tmod (wrap64 (a2)) (bt283.1.size : Int)) (wrap64 (1 + (Int.tmod (wrap64 (Int.tdiv (wrap64 (a2)) 256)) 255))) ((Int.tmod (wrap64 (a2)) (bt283.1.size : Int)) == 5) a0_0 a0_1 a0_2 a0_3 a0_4 a0_5)))) else (if bt283.1.toList = ([] : List UInt8) then ((intrusionlaw13_awake.f k).bind fun t285 => (some t285)) else (none))))) = some r := h
 clear h
 by_cases c4 : (a1_2.size : Int) > 300
 ·rw [if_pos c4] at H
  have c4b0 : decide (300 < (a1_2.size : Int)) = true := decide_eq_true c4
  have c4b1 : decide (300 < a1_2.size) = true := decide_eq_true (by omega)
  clear c4
  replace H := Option.bind_eq_some_iff.mp H
  obtain ⟨t282, A50, H⟩ := H
  replace H : (some t282) = some r := H
  have A5 := Aside0.mk A50
  clear A50
  obtain rfl := Option.some.inj H
  go_enter Tryd.func6, Tryd.ntmps6
  go_wp2_with (first | ((with_reducible refine gate_dst (N := 3) rfl ?_); refine box_event ?hg (N := 3) ?hd (cs := #[.bool a0_0, .int .u64 a0_1, .int .u64 a0_2, .bool a0_3, .int .u64 a0_4, .int .u64 a0_5]) (t := 26) ?hr ?_; (case hd => rfl); (case hg => rfl); (case hr => first | (go_simp; done) | (go_simp; rfl)); intro gb280 hg w6 hbox hb; have n0_ := Aside0.mk (below_step (by repeat (first | (with_reducible first | exact HB.out | apply below_alloc | apply pw_below_drewN | apply below_drew1) | exact HB.out)) hb); have n1_ := Aside0.mk (hbox); have n2_ := Aside0.mk ((by rw [hg]; exact (below_size (by repeat (first | (with_reducible first | exact HB.out | apply below_alloc | apply pw_below_drewN | apply below_drew1) | exact HB.out))) : w.heap.size ≤ gb280)); have n3_ := Aside0.mk ((by rw [hg]; exact (below_size (by repeat (first | (with_reducible first | exact HB.out | apply below_alloc | apply pw_below_drewN | apply below_drew1) | exact HB.out))) : w.heap.size ≤ gb280)); clear HB; have HB := n0_; have BK280 := n1_; have GW280 := n2_; have GE280 := n3_; clear n0_ n1_ n2_ n3_; clear hb hbox hg) | ((with_reducible refine gate_dst (N := 4) rfl ?_); refine box_event ?hg (N := 4) ?hd (cs := #[.int .i64 a1_0, .int .i64 a1_1, .string a1_2]) (t := 29) ?hr ?_; (case hd => rfl); (case hg => rfl); (case hr => first | (go_simp; done) | (go_simp; rfl)); intro gb281 hg w7 hbox hb; have n0_ := Aside0.mk (blk_below (g := gb280) (o := .cells #[.bool a0_0, .int .u64 a0_1, .int .u64 a0_2, .bool a0_3, .int .u64 a0_4, .int .u64 a0_5] 26 (0, 0)) (by (with_reducible repeat (first | refine blk_drewN ?_ _ | refine blk_drew ?_ | refine blk_alloc ?_ _)); exact BK280.out) hb); have n1_ := Aside0.mk (below_step (by repeat (first | (with_reducible first | exact HB.out | apply below_alloc | apply pw_below_drewN | apply below_drew1 | refine below_set ?_ GE280.out) | exact HB.out)) hb); have n2_ := Aside0.mk (hbox); have n3_ := Aside0.mk ((by rw [hg]; exact (below_size (by repeat (first | (with_reducible first | exact HB.out | apply below_alloc | apply pw_below_drewN | apply below_drew1 | refine below_set ?_ GE280.out) | exact HB.out))) : w.heap.size ≤ gb281)); have n4_ := Aside0.mk ((by rw [hg]; exact (below_size (by repeat (first | (with_reducible first | exact HB.out | apply below_alloc | apply pw_below_drewN | apply below_drew1 | refine below_set ?_ GE280.out) | exact HB.out))) : w.heap.size ≤ gb281)); have n5_ := Aside0.mk ((by rw [hg]; exact Nat.ne_of_lt (blk_lt (g := gb280) (o := .cells #[.bool a0_0, .int .u64 a0_1, .int .u64 a0_2, .bool a0_3, .int .u64 a0_4, .int .u64 a0_5] 26 (0, 0)) (by (with_reducible repeat (first | refine blk_drewN ?_ _ | refine blk_drew ?_ | refine blk_alloc ?_ _)); exact BK280.out)) : gb280 ≠ gb281)); have n6_ := Aside0.mk ((by rw [hg]; exact Nat.ne_of_gt (blk_lt (g := gb280) (o := .cells #[.bool a0_0, .int .u64 a0_1, .int .u64 a0_2, .bool a0_3, .int .u64 a0_4, .int .u64 a0_5] 26 (0, 0)) (by (with_reducible repeat (first | refine blk_drewN ?_ _ | refine blk_drew ?_ | refine blk_alloc ?_ _)); exact BK280.out)) : gb281 ≠ gb280)); clear BK280; clear HB; have BK280 := n0_; have HB := n1_; have BK281 := n2_; have GW281 := n3_; have GE281 := n4_; have NB280_281 := n5_; have NB281_280 := n6_; clear n0_ n1_ n2_ n3_ n4_ n5_ n6_; clear hb hbox hg; have hnb8 := NB281_280.out; have hnc8 := NB280_281.out; have hcz9_0 := cells_3 BK281.out; have hfz9_0 := fun j_ => blk_frozen BK281.out j_) | ((with_reducible refine gate_callee (f := 7) rfl ?_); refine goesL_ (some 18) rfl rfl Tryd.func7 (by kernel_rfl) rfl #[] rfl (by (try simp only [List.map_toArray, List.map_cons, List.map_nil]); first | done | rfl | (simp only [List.length_drop, List.length_take]; rfl)) ?_; (with_reducible refine (intrusionlaw13_awake.calls k  t282 _ ?side1 A5.out).mono ?_); (case side1 => exact laid_below HLD.out (by repeat (first | (with_reducible first | exact HB.out | apply below_alloc | apply pw_below_drewN | apply below_drew1 | refine below_set ?_ GE280.out | refine below_set ?_ GE281.out) | exact HB.out))); rintro e w10 ⟨rfl, hb⟩; refine ⟨_, rfl, ?_⟩; have n0_ := Aside0.mk (blk_below (g := gb280) (o := .cells #[.bool a0_0, .int .u64 a0_1, .int .u64 a0_2, .bool a0_3, .int .u64 a0_4, .int .u64 a0_5] 26 (0, 0)) (by (with_reducible repeat (first | refine blk_drewN ?_ _ | refine blk_drew ?_ | refine blk_alloc ?_ _)); exact BK280.out) hb); have n1_ := Aside0.mk (blk_below (g := gb281) (o := .cells #[.int .i64 a1_0, .int .i64 a1_1, .string a1_2] 29 (0, 0)) (by (with_reducible repeat (first | refine blk_drewN ?_ _ | refine blk_drew ?_ | refine blk_alloc ?_ _)); exact BK281.out) hb); have n2_ := Aside0.mk (below_step (by repeat (first | (with_reducible first | exact HB.out | apply below_alloc | apply pw_below_drewN | apply below_drew1 | refine below_set ?_ GE280.out | refine below_set ?_ GE281.out) | exact HB.out)) hb); clear BK280; clear BK281; clear HB; have BK280 := n0_; have BK281 := n1_; have HB := n2_; clear n0_ n1_ n2_; (try clear hb); (try clear hb2); (try clear hk); (try clear hi)))
  go_ret
  exact ⟨by first | rfl | (simp [errW_none, errW_some] <;> rfl) | (simp [*, errW_none, errW_some] <;> rfl), by repeat (first | (with_reducible first | exact HB.out | apply below_alloc | apply pw_below_drewN | apply below_drew1 | refine below_set ?_ GE280.out | refine below_set ?_ GE281.out) | exact HB.out)⟩
 ·rw [if_neg c4] at H
  have c4b0 : decide (300 < (a1_2.size : Int)) = false := decide_eq_false c4
  have c4b1 : decide (300 < a1_2.size) = false := decide_eq_false (by omega)
  clear c4
  replace H := Option.bind_eq_some_iff.mp H
  obtain ⟨⟨t283, t284⟩, A110, H⟩ := H
  replace H : (if t284 = 0 then (if (t283.size : Int) < 8 then (none) else (if (t283.size : Int) = 0 then (none) else (if (Int.tmod (wrap64 (a2)) (t283.size : Int)) = 4 then (intrusionlaw13_UdpDetects.j0 k t283 (Int.tmod (wrap64 (a2)) (t283.size : Int)) (wrap64 (1 + (Int.tmod (wrap64 (Int.tdiv (wrap64 (a2)) 256)) 255))) true a0_0 a0_1 a0_2 a0_3 a0_4 a0_5) else (intrusionlaw13_UdpDetects.j0 k t283 (Int.tmod (wrap64 (a2)) (t283.size : Int)) (wrap64 (1 + (Int.tmod (wrap64 (Int.tdiv (wrap64 (a2)) 256)) 255))) ((Int.tmod (wrap64 (a2)) (t283.size : Int)) == 5) a0_0 a0_1 a0_2 a0_3 a0_4 a0_5)))) else (if t283.toList = ([] : List UInt8) then ((intrusionlaw13_awake.f k).bind fun t285 => (some t285)) else (none))) = some r := H
  have A11 := Aside0.mk A110
  clear A110
  by_cases c12 : t284 = 0
  ·rw [if_pos c12] at H
   have c12b0 : (t284 == 0) = true := beq_iff_eq.mpr c12
   have c12b1 : (t284 != 0) = false := bne_eq_false_iff_eq.mpr c12
   clear c12
   by_cases c13 : (t283.size : Int) < 8
   ·rw [if_pos c13] at H
    exact absurd H (by simp)
   ·rw [if_neg c13] at H
    have c13b0 : decide ((t283.size : Int) < 8) = false := decide_eq_false c13
    have c13b1 : decide (t283.size < 8) = false := decide_eq_false (by omega)
    clear c13
    by_cases c14 : (t283.size : Int) = 0
    ·rw [if_pos c14] at H
     exact absurd H (by simp)
    ·rw [if_neg c14] at H
     have c14b0 : ((t283.size : Int) == 0) = false := beq_eq_false_iff_ne.mpr c14
     have c14b1 : ((t283.size : Int) != 0) = true := bne_iff_ne.mpr c14
     have HC15 := Aside0.mk H
     clear H
     go_enter Tryd.func6, Tryd.ntmps6
     go_upto_region 10 with (first | ((with_reducible refine gate_dst (N := 3) rfl ?_); refine box_event ?hg (N := 3) ?hd (cs := #[.bool a0_0, .int .u64 a0_1, .int .u64 a0_2, .bool a0_3, .int .u64 a0_4, .int .u64 a0_5]) (t := 26) ?hr ?_; (case hd => rfl); (case hg => rfl); (case hr => first | (go_simp; done) | (go_simp; rfl)); intro gb280 hg w16 hbox hb; have n0_ := Aside0.mk (below_step (by repeat (first | (with_reducible first | exact HB.out | apply below_alloc | apply pw_below_drewN | apply below_drew1) | exact HB.out)) hb); have n1_ := Aside0.mk (hbox); have n2_ := Aside0.mk ((by rw [hg]; exact (below_size (by repeat (first | (with_reducible first | exact HB.out | apply below_alloc | apply pw_below_drewN | apply below_drew1) | exact HB.out))) : w.heap.size ≤ gb280)); have n3_ := Aside0.mk ((by rw [hg]; exact (below_size (by repeat (first | (with_reducible first | exact HB.out | apply below_alloc | apply pw_below_drewN | apply below_drew1) | exact HB.out))) : w.heap.size ≤ gb280)); clear HB; have HB := n0_; have BK280 := n1_; have GW280 := n2_; have GE280 := n3_; clear n0_ n1_ n2_ n3_; clear hb hbox hg) | ((with_reducible refine gate_dst (N := 4) rfl ?_); refine box_event ?hg (N := 4) ?hd (cs := #[.int .i64 a1_0, .int .i64 a1_1, .string a1_2]) (t := 29) ?hr ?_; (case hd => rfl); (case hg => rfl); (case hr => first | (go_simp; done) | (go_simp; rfl)); intro gb281 hg w17 hbox hb; have n0_ := Aside0.mk (blk_below (g := gb280) (o := .cells #[.bool a0_0, .int .u64 a0_1, .int .u64 a0_2, .bool a0_3, .int .u64 a0_4, .int .u64 a0_5] 26 (0, 0)) (by (with_reducible repeat (first | refine blk_drewN ?_ _ | refine blk_drew ?_ | refine blk_alloc ?_ _)); exact BK280.out) hb); have n1_ := Aside0.mk (below_step (by repeat (first | (with_reducible first | exact HB.out | apply below_alloc | apply pw_below_drewN | apply below_drew1 | refine below_set ?_ GE280.out) | exact HB.out)) hb); have n2_ := Aside0.mk (hbox); have n3_ := Aside0.mk ((by rw [hg]; exact (below_size (by repeat (first | (with_reducible first | exact HB.out | apply below_alloc | apply pw_below_drewN | apply below_drew1 | refine below_set ?_ GE280.out) | exact HB.out))) : w.heap.size ≤ gb281)); have n4_ := Aside0.mk ((by rw [hg]; exact (below_size (by repeat (first | (with_reducible first | exact HB.out | apply below_alloc | apply pw_below_drewN | apply below_drew1 | refine below_set ?_ GE280.out) | exact HB.out))) : w.heap.size ≤ gb281)); have n5_ := Aside0.mk ((by rw [hg]; exact Nat.ne_of_lt (blk_lt (g := gb280) (o := .cells #[.bool a0_0, .int .u64 a0_1, .int .u64 a0_2, .bool a0_3, .int .u64 a0_4, .int .u64 a0_5] 26 (0, 0)) (by (with_reducible repeat (first | refine blk_drewN ?_ _ | refine blk_drew ?_ | refine blk_alloc ?_ _)); exact BK280.out)) : gb280 ≠ gb281)); have n6_ := Aside0.mk ((by rw [hg]; exact Nat.ne_of_gt (blk_lt (g := gb280) (o := .cells #[.bool a0_0, .int .u64 a0_1, .int .u64 a0_2, .bool a0_3, .int .u64 a0_4, .int .u64 a0_5] 26 (0, 0)) (by (with_reducible repeat (first | refine blk_drewN ?_ _ | refine blk_drew ?_ | refine blk_alloc ?_ _)); exact BK280.out)) : gb281 ≠ gb280)); clear BK280; clear HB; have BK280 := n0_; have HB := n1_; have BK281 := n2_; have GW281 := n3_; have GE281 := n4_; have NB280_281 := n5_; have NB281_280 := n6_; clear n0_ n1_ n2_ n3_ n4_ n5_ n6_; clear hb hbox hg; have hnb18 := NB281_280.out; have hnc18 := NB280_281.out; have hcz19_0 := cells_3 BK281.out; have hfz19_0 := fun j_ => blk_frozen BK281.out j_; have hcz20_0 := cells_6 BK280.out; have hfz20_0 := fun j_ => blk_frozen BK280.out j_) | ((with_reducible refine gate_callee (f := 10) rfl ?_); refine goesL_ (some 25) rfl rfl Tryd.func10 (by kernel_rfl) rfl #[.agg #[.bool a0_0, .int .u64 a0_1, .int .u64 a0_2], .agg #[.bool a0_3, .int .u64 a0_4, .int .u64 a0_5], .agg #[.int .i64 a1_0, .int .i64 a1_1, .string a1_2]] rfl (by (try simp only [List.map_toArray, List.map_cons, List.map_nil]); first | done | rfl | (simp only [List.length_drop, List.length_take]; rfl)) ?_; (with_reducible refine (udp_Encode.calls k a0_0 a0_1 a0_2 a0_3 a0_4 a0_5 a1_0 a1_1 a1_2 t283 t284 _ ?side1 A11.out).mono ?_); (case side1 => exact laid_below HLD.out (by repeat (first | (with_reducible first | exact HB.out | apply below_alloc | apply pw_below_drewN | apply below_drew1 | refine below_set ?_ GE280.out | refine below_set ?_ GE281.out) | exact HB.out))); rintro e w21 ⟨rfl, hb⟩; refine ⟨_, rfl, ?_⟩; have n0_ := Aside0.mk (blk_below (g := gb280) (o := .cells #[.bool a0_0, .int .u64 a0_1, .int .u64 a0_2, .bool a0_3, .int .u64 a0_4, .int .u64 a0_5] 26 (0, 0)) (by (with_reducible repeat (first | refine blk_drewN ?_ _ | refine blk_drew ?_ | refine blk_alloc ?_ _)); exact BK280.out) hb); have n1_ := Aside0.mk (blk_below (g := gb281) (o := .cells #[.int .i64 a1_0, .int .i64 a1_1, .string a1_2] 29 (0, 0)) (by (with_reducible repeat (first | refine blk_drewN ?_ _ | refine blk_drew ?_ | refine blk_alloc ?_ _)); exact BK281.out) hb); have n2_ := Aside0.mk (below_step (by repeat (first | (with_reducible first | exact HB.out | apply below_alloc | apply pw_below_drewN | apply below_drew1 | refine below_set ?_ GE280.out | refine below_set ?_ GE281.out) | exact HB.out)) hb); clear BK280; clear BK281; clear HB; have BK280 := n0_; have BK281 := n1_; have HB := n2_; clear n0_ n1_ n2_; (try clear hb); (try clear hb2); (try clear hk); (try clear hi)))
     (try simp only [Act.put, List.setIfInBounds_toArray, List.set_cons_zero, List.set_cons_succ])
     go_cut [53] (fun v53 wc => ∃ (kq : Nat) (x53_14 : Bool), v53 = .bool x53_14 ∧ Aside0 (intrusionlaw13_UdpDetects.j0 kq t283 (Int.tmod (wrap64 (a2)) (t283.size : Int)) (wrap64 (1 + (Int.tmod (wrap64 (Int.tdiv (wrap64 (a2)) 256)) 255))) x53_14 a0_0 a0_1 a0_2 a0_3 a0_4 a0_5 = some r) ∧ Aside0 (kq ≤ k) ∧ Aside0 (wc.heap[gb280]? = some (.cells #[.bool a0_0, .int .u64 a0_1, .int .u64 a0_2, .bool a0_3, .int .u64 a0_4, .int .u64 a0_5] 26 (0, 0))) ∧ Aside0 (wc.heap[gb281]? = some (.cells #[.int .i64 a1_0, .int .i64 a1_1, .string a1_2] 29 (0, 0))) ∧ Aside0 (Below w.heap.size w wc))
     case first =>
      have H := HC15.out
      clear HC15
      by_cases c22 : (Int.tmod (wrap64 (a2)) (t283.size : Int)) = 4
      ·rw [if_pos c22] at H
       have c22b0 : ((Int.tmod (wrap64 (a2)) (t283.size : Int)) == 4) = true := beq_iff_eq.mpr c22
       have c22b1 : ((Int.tmod (wrap64 (a2)) (t283.size : Int)) != 4) = false := bne_eq_false_iff_eq.mpr c22
       clear c22
       (first | rw [c22b0] | (simp only [i64_w, i32_w]; rw [c22b0]) | skip)
       have H' := Aside0.mk H
       clear H
       go_wp2
       go_meet
       case rel => exact ⟨_, (true), (by first | rfl | (simp; done) | (simp [*]; done)), H', ⟨by first | omega | exact Nat.le_refl _⟩, ⟨by (with_reducible repeat (first | refine blk_drewN ?_ _ | refine blk_drew ?_ | refine blk_alloc ?_ _)); exact BK280.out⟩, ⟨by (with_reducible repeat (first | refine blk_drewN ?_ _ | refine blk_drew ?_ | refine blk_alloc ?_ _)); exact BK281.out⟩, ⟨by repeat (first | (with_reducible first | exact HB.out | apply below_alloc | apply pw_below_drewN | apply below_drew1 | refine below_set ?_ GE280.out | refine below_set ?_ GE281.out) | exact HB.out)⟩⟩
      ·rw [if_neg c22] at H
       have c22b0 : ((Int.tmod (wrap64 (a2)) (t283.size : Int)) == 4) = false := beq_eq_false_iff_ne.mpr c22
       have c22b1 : ((Int.tmod (wrap64 (a2)) (t283.size : Int)) != 4) = true := bne_iff_ne.mpr c22
       (first | rw [c22b0] | (simp only [i64_w, i32_w]; rw [c22b0]) | skip)
       have H' := Aside0.mk H
       clear H
       go_wp2
       go_meet
       case rel => exact ⟨_, (((Int.tmod (wrap64 (a2)) (t283.size : Int)) == 5)), (by first | rfl | (simp; done) | (simp [*]; done)), H', ⟨by first | omega | exact Nat.le_refl _⟩, ⟨by (with_reducible repeat (first | refine blk_drewN ?_ _ | refine blk_drew ?_ | refine blk_alloc ?_ _)); exact BK280.out⟩, ⟨by (with_reducible repeat (first | refine blk_drewN ?_ _ | refine blk_drew ?_ | refine blk_alloc ?_ _)); exact BK281.out⟩, ⟨by repeat (first | (with_reducible first | exact HB.out | apply below_alloc | apply pw_below_drewN | apply below_drew1 | refine below_set ?_ GE280.out | refine below_set ?_ GE281.out) | exact HB.out)⟩⟩
     case rest =>
      clear HC15
      try clear c4
      try clear c4b0
      try clear c4b1
      try clear c12
      try clear c12b0
      try clear c12b1
      try clear c13
      try clear c13b0
      try clear c13b1
      try clear c14
      try clear c14b0
      try clear c14b1
      try clear hcz19_0
      try clear hcz20_0
      try clear hfz19_0
      try clear hfz20_0
      obtain ⟨kq, x53_14, rfl, HA, HJ14, BK280, BK281, HB⟩ := hcut
      cases kq with
      | zero => exact absurd HA.out (by simp [intrusionlaw13_UdpDetects.j0])
      | succ kj14 =>
       have H := HA.out
       clear HA
       simp only [intrusionlaw13_UdpDetects.j0] at H
       by_cases c23 : x53_14 = true
       ·subst c23
        have H1 : ((intrusionlaw13_awake.f kj14).bind fun t286 => (some t286)) = some r := by rw [if_pos rfl] at H; exact H
        clear H
        have H := H1
        clear H1
        replace H := Option.bind_eq_some_iff.mp H
        obtain ⟨t286, A240, H⟩ := H
        replace H : (some t286) = some r := H
        have A24 := Aside0.mk A240
        clear A240
        obtain rfl := Option.some.inj H
        go_wp2_with (first | ((with_reducible refine gate_callee (f := 7) rfl ?_); refine goesL_ (some 54) rfl rfl Tryd.func7 (by kernel_rfl) rfl #[] rfl (by (try simp only [List.map_toArray, List.map_cons, List.map_nil]); first | done | rfl | (simp only [List.length_drop, List.length_take]; rfl)) ?_; (with_reducible refine (intrusionlaw13_awake.calls kj14  t286 _ ?side1 A24.out).mono ?_); (case side1 => exact laid_below HLD.out (by repeat (first | (with_reducible first | exact HB.out | apply below_alloc | apply pw_below_drewN | apply below_drew1 | refine below_set ?_ GE280.out | refine below_set ?_ GE281.out) | exact HB.out))); rintro e w25 ⟨rfl, hb⟩; refine ⟨_, rfl, ?_⟩; have n0_ := Aside0.mk (blk_below (g := gb280) (o := .cells #[.bool a0_0, .int .u64 a0_1, .int .u64 a0_2, .bool a0_3, .int .u64 a0_4, .int .u64 a0_5] 26 (0, 0)) (by (with_reducible repeat (first | refine blk_drewN ?_ _ | refine blk_drew ?_ | refine blk_alloc ?_ _)); exact BK280.out) hb); have n1_ := Aside0.mk (blk_below (g := gb281) (o := .cells #[.int .i64 a1_0, .int .i64 a1_1, .string a1_2] 29 (0, 0)) (by (with_reducible repeat (first | refine blk_drewN ?_ _ | refine blk_drew ?_ | refine blk_alloc ?_ _)); exact BK281.out) hb); have n2_ := Aside0.mk (below_step (by repeat (first | (with_reducible first | exact HB.out | apply below_alloc | apply pw_below_drewN | apply below_drew1 | refine below_set ?_ GE280.out | refine below_set ?_ GE281.out) | exact HB.out)) hb); clear BK280; clear BK281; clear HB; have BK280 := n0_; have BK281 := n1_; have HB := n2_; clear n0_ n1_ n2_; (try clear hb); (try clear hb2); (try clear hk); (try clear hi)))
        go_ret
        exact ⟨by first | rfl | (simp [errW_none, errW_some] <;> rfl) | (simp [*, errW_none, errW_some] <;> rfl), by repeat (first | (with_reducible first | exact HB.out | apply below_alloc | apply pw_below_drewN | apply below_drew1 | refine below_set ?_ GE280.out | refine below_set ?_ GE281.out) | exact HB.out)⟩
       ·replace c23 := Bool.eq_false_iff.mpr c23
        subst c23
        have H1 : (if 0 ≤ (Int.tmod (wrap64 (a2)) (t283.size : Int)) then (if (Int.tmod (wrap64 (a2)) (t283.size : Int)) ≤ (t283.size : Int) then (if (Int.tmod (wrap64 (a2)) (t283.size : Int)) < (t283.size : Int) then ((some (([(wrap64 ((wrap64 (bt t283 (Int.tmod (wrap64 (a2)) (t283.size : Int)))) + (wrap64 (1 + (Int.tmod (wrap64 (Int.tdiv (wrap64 (a2)) 256)) 255))))) % 256] : List Int) : List Int)).bind fun y287 => (if (t283.extract 0 ((Int.tmod (wrap64 (a2)) (t283.size : Int)) : Int).toNat).size + (strOfNums y287).size ≤ 9223372036854775807 then (if 0 ≤ (wrap64 ((Int.tmod (wrap64 (a2)) (t283.size : Int)) + 1)) then (if (wrap64 ((Int.tmod (wrap64 (a2)) (t283.size : Int)) + 1)) ≤ (t283.size : Int) then (if ((t283.extract 0 ((Int.tmod (wrap64 (a2)) (t283.size : Int)) : Int).toNat) ++ (strOfNums y287)).size + (t283.extract ((wrap64 ((Int.tmod (wrap64 (a2)) (t283.size : Int)) + 1)) : Int).toNat t283.size).size ≤ 9223372036854775807 then ((udp_Decode.f kj14 a0_0 a0_1 a0_2 a0_3 a0_4 a0_5 (((t283.extract 0 ((Int.tmod (wrap64 (a2)) (t283.size : Int)) : Int).toNat) ++ (strOfNums y287)) ++ (t283.extract ((wrap64 ((Int.tmod (wrap64 (a2)) (t283.size : Int)) + 1)) : Int).toNat t283.size))).bind fun bt290 => (if bt290.2.2.2 = 0 then (if a0_0 = true then (none) else (if 6 < ((((t283.extract 0 ((Int.tmod (wrap64 (a2)) (t283.size : Int)) : Int).toNat) ++ (strOfNums y287)) ++ (t283.extract ((wrap64 ((Int.tmod (wrap64 (a2)) (t283.size : Int)) + 1)) : Int).toNat t283.size)).size : Int) then (if (bt (((t283.extract 0 ((Int.tmod (wrap64 (a2)) (t283.size : Int)) : Int).toNat) ++ (strOfNums y287)) ++ (t283.extract ((wrap64 ((Int.tmod (wrap64 (a2)) (t283.size : Int)) + 1)) : Int).toNat t283.size)) 6) = 0 then (if 7 < ((((t283.extract 0 ((Int.tmod (wrap64 (a2)) (t283.size : Int)) : Int).toNat) ++ (strOfNums y287)) ++ (t283.extract ((wrap64 ((Int.tmod (wrap64 (a2)) (t283.size : Int)) + 1)) : Int).toNat t283.size)).size : Int) then (if (bt (((t283.extract 0 ((Int.tmod (wrap64 (a2)) (t283.size : Int)) : Int).toNat) ++ (strOfNums y287)) ++ (t283.extract ((wrap64 ((Int.tmod (wrap64 (a2)) (t283.size : Int)) + 1)) : Int).toNat t283.size)) 7) = 0 then ((intrusionlaw13_awake.f kj14).bind fun t295 => (some t295)) else (none)) else (none)) else (none)) else (none))) else (if bt290.2.2.2 = 8 then ((intrusionlaw13_awake.f kj14).bind fun t296 => (some t296)) else (none)))) else (none)) else (none)) else (none)) else (none))) else (none)) else (none)) else (none)) = some r := by rw [if_neg (show ¬ (false = true) by decide)] at H; exact H
        clear H
        have H := H1
        clear H1
        obtain ⟨ji26, hji26⟩ : ∃ j_ : Int, (Int.tmod (wrap64 (a2)) (t283.size : Int)) = j_ := ⟨_, rfl⟩
        replace H : (if 0 ≤ (ji26) then (if (ji26) ≤ (t283.size : Int) then (if (ji26) < (t283.size : Int) then ((some (([(wrap64 ((wrap64 (bt t283 (ji26))) + (wrap64 (1 + (Int.tmod (wrap64 (Int.tdiv (wrap64 (a2)) 256)) 255))))) % 256] : List Int) : List Int)).bind fun y287 => (if (t283.extract 0 ((ji26) : Int).toNat).size + (strOfNums y287).size ≤ 9223372036854775807 then (if 0 ≤ (wrap64 ((ji26) + 1)) then (if (wrap64 ((ji26) + 1)) ≤ (t283.size : Int) then (if ((t283.extract 0 ((ji26) : Int).toNat) ++ (strOfNums y287)).size + (t283.extract ((wrap64 ((ji26) + 1)) : Int).toNat t283.size).size ≤ 9223372036854775807 then ((udp_Decode.f kj14 a0_0 a0_1 a0_2 a0_3 a0_4 a0_5 (((t283.extract 0 ((ji26) : Int).toNat) ++ (strOfNums y287)) ++ (t283.extract ((wrap64 ((ji26) + 1)) : Int).toNat t283.size))).bind fun bt290 => (if bt290.2.2.2 = 0 then (if a0_0 = true then (none) else (if 6 < ((((t283.extract 0 ((ji26) : Int).toNat) ++ (strOfNums y287)) ++ (t283.extract ((wrap64 ((ji26) + 1)) : Int).toNat t283.size)).size : Int) then (if (bt (((t283.extract 0 ((ji26) : Int).toNat) ++ (strOfNums y287)) ++ (t283.extract ((wrap64 ((ji26) + 1)) : Int).toNat t283.size)) 6) = 0 then (if 7 < ((((t283.extract 0 ((ji26) : Int).toNat) ++ (strOfNums y287)) ++ (t283.extract ((wrap64 ((ji26) + 1)) : Int).toNat t283.size)).size : Int) then (if (bt (((t283.extract 0 ((ji26) : Int).toNat) ++ (strOfNums y287)) ++ (t283.extract ((wrap64 ((ji26) + 1)) : Int).toNat t283.size)) 7) = 0 then ((intrusionlaw13_awake.f kj14).bind fun t295 => (some t295)) else (none)) else (none)) else (none)) else (none))) else (if bt290.2.2.2 = 8 then ((intrusionlaw13_awake.f kj14).bind fun t296 => (some t296)) else (none)))) else (none)) else (none)) else (none)) else (none))) else (none)) else (none)) else (none)) = some r := by first | (rw [hji26] at H; exact H) | (simp only [hji26] at H ⊢; exact H)
        by_cases c27 : 0 ≤ (ji26)
        ·rw [if_pos c27] at H
         have c27b0 := eq_true c27
         have c27b1 : decide (0 ≤ (ji26)) = true := decide_eq_true c27
         clear c27
         by_cases c28 : (ji26) ≤ (t283.size : Int)
         ·rw [if_pos c28] at H
          have c28b0 := eq_true c28
          have c28b1 : decide ((ji26) ≤ (t283.size : Int)) = true := decide_eq_true c28
          clear c28
          by_cases c29 : (ji26) < (t283.size : Int)
          ·rw [if_pos c29] at H
           have c29b0 : decide ((ji26) < (t283.size : Int)) = true := decide_eq_true c29
           clear c29
           obtain ⟨y287, hy287⟩ : ∃ y_ : List Int, y_ = (([(wrap64 ((wrap64 (bt t283 (ji26))) + (wrap64 (1 + (Int.tmod (wrap64 (Int.tdiv (wrap64 (a2)) 256)) 255))))) % 256] : List Int)) := ⟨_, rfl⟩
           replace H : (if (t283.extract 0 ((ji26) : Int).toNat).size + (strOfNums y287).size ≤ 9223372036854775807 then (if 0 ≤ (wrap64 ((ji26) + 1)) then (if (wrap64 ((ji26) + 1)) ≤ (t283.size : Int) then (if ((t283.extract 0 ((ji26) : Int).toNat) ++ (strOfNums y287)).size + (t283.extract ((wrap64 ((ji26) + 1)) : Int).toNat t283.size).size ≤ 9223372036854775807 then ((udp_Decode.f kj14 a0_0 a0_1 a0_2 a0_3 a0_4 a0_5 (((t283.extract 0 ((ji26) : Int).toNat) ++ (strOfNums y287)) ++ (t283.extract ((wrap64 ((ji26) + 1)) : Int).toNat t283.size))).bind fun bt290 => (if bt290.2.2.2 = 0 then (if a0_0 = true then (none) else (if 6 < ((((t283.extract 0 ((ji26) : Int).toNat) ++ (strOfNums y287)) ++ (t283.extract ((wrap64 ((ji26) + 1)) : Int).toNat t283.size)).size : Int) then (if (bt (((t283.extract 0 ((ji26) : Int).toNat) ++ (strOfNums y287)) ++ (t283.extract ((wrap64 ((ji26) + 1)) : Int).toNat t283.size)) 6) = 0 then (if 7 < ((((t283.extract 0 ((ji26) : Int).toNat) ++ (strOfNums y287)) ++ (t283.extract ((wrap64 ((ji26) + 1)) : Int).toNat t283.size)).size : Int) then (if (bt (((t283.extract 0 ((ji26) : Int).toNat) ++ (strOfNums y287)) ++ (t283.extract ((wrap64 ((ji26) + 1)) : Int).toNat t283.size)) 7) = 0 then ((intrusionlaw13_awake.f kj14).bind fun t295 => (some t295)) else (none)) else (none)) else (none)) else (none))) else (if bt290.2.2.2 = 8 then ((intrusionlaw13_awake.f kj14).bind fun t296 => (some t296)) else (none)))) else (none)) else (none)) else (none)) else (none)) = some r := by first | (rw [hy287]; with_reducible exact H) | (have H2_ := (Option.bind_some _ _).symm.trans H; rw [hy287]; with_reducible exact H2_) | (have H2_ := (Option.bind_some _ _).symm.trans H; with_reducible exact H2_) | with_reducible exact H | (rw [hy287]; exact H) | exact H
           have Ny287 := Aside0.mk hy287
           clear hy287
           by_cases c31 : (t283.extract 0 ((ji26) : Int).toNat).size + (strOfNums y287).size ≤ 9223372036854775807
           ·rw [if_pos c31] at H
            have c31b0 := eq_true c31
            have c31b1 : decide ((t283.extract 0 ((ji26) : Int).toNat).size + (strOfNums y287).size ≤ 9223372036854775807) = true := decide_eq_true c31
            (try (have c31s0 : (9223372036854775807 < (((ji26) : Int).toNat) + (strOfNums y287).size) = False := by have h_ := c31; simp only [ByteArray.size_append, ByteArray.size_extract] at h_; exact eq_false (by first | omega | (have h2_0 : (((ji26) : Int) : Int) ≤ (t283.size : Int) := of_decide_eq_true (by first | (with_reducible assumption) | assumption); omega))))
            (try (have c31s1 : ((((ji26) : Int).toNat) + (strOfNums y287).size ≤ 9223372036854775807) = True := by have h_ := c31; simp only [ByteArray.size_append, Int.natCast_add, Int.toNat_natCast] at h_; first | exact eq_true h_ | exact eq_true (by omega)))
            (try (have c31s2 : decide ((((ji26) : Int).toNat) + (strOfNums y287).size ≤ 9223372036854775807) = true := by have h_ := c31; first | (simp only [ByteArray.size_append, Int.toNat_natCast] at h_; first | exact beq_iff_eq.mpr h_ | exact beq_eq_false_iff_ne.mpr h_ | exact bne_iff_ne.mpr h_ | exact bne_eq_false_iff_eq.mpr h_ | (rw [beq_iff_eq.mpr h_]; rfl) | (rw [beq_eq_false_iff_ne.mpr h_]; rfl)) | (simp only [ByteArray.size_append, Int.natCast_add, Int.toNat_natCast] at h_ ⊢; first | exact h_ | simpa using h_ | simp [h_] | omega) | (simp only [ByteArray.size_append] at h_; simp at h_ ⊢; omega) | (simp only [ByteArray.size_append, Int.natCast_add, Int.toNat_natCast] at h_; simpa using h_)))
            try have c31b2 : (9223372036854775807 < (t283.extract 0 ((ji26) : Int).toNat).size + (strOfNums y287).size) = False := eq_false (Nat.not_lt.2 c31)
            obtain ⟨ji32, hji32⟩ : ∃ j_ : Int, (wrap64 ((ji26) + 1)) = j_ := ⟨_, rfl⟩
            replace H : (if 0 ≤ (ji32) then (if (ji32) ≤ (t283.size : Int) then (if ((t283.extract 0 ((ji26) : Int).toNat) ++ (strOfNums y287)).size + (t283.extract ((ji32) : Int).toNat t283.size).size ≤ 9223372036854775807 then ((udp_Decode.f kj14 a0_0 a0_1 a0_2 a0_3 a0_4 a0_5 (((t283.extract 0 ((ji26) : Int).toNat) ++ (strOfNums y287)) ++ (t283.extract ((ji32) : Int).toNat t283.size))).bind fun bt290 => (if bt290.2.2.2 = 0 then (if a0_0 = true then (none) else (if 6 < ((((t283.extract 0 ((ji26) : Int).toNat) ++ (strOfNums y287)) ++ (t283.extract ((ji32) : Int).toNat t283.size)).size : Int) then (if (bt (((t283.extract 0 ((ji26) : Int).toNat) ++ (strOfNums y287)) ++ (t283.extract ((ji32) : Int).toNat t283.size)) 6) = 0 then (if 7 < ((((t283.extract 0 ((ji26) : Int).toNat) ++ (strOfNums y287)) ++ (t283.extract ((ji32) : Int).toNat t283.size)).size : Int) then (if (bt (((t283.extract 0 ((ji26) : Int).toNat) ++ (strOfNums y287)) ++ (t283.extract ((ji32) : Int).toNat t283.size)) 7) = 0 then ((intrusionlaw13_awake.f kj14).bind fun t295 => (some t295)) else (none)) else (none)) else (none)) else (none))) else (if bt290.2.2.2 = 8 then ((intrusionlaw13_awake.f kj14).bind fun t296 => (some t296)) else (none)))) else (none)) else (none)) else (none)) = some r := by first | (rw [hji32] at H; exact H) | (simp only [hji32] at H ⊢; exact H)
            have hji32w : (IntKind.i64.wrap ((ji26) + 1)) = ji32 := (i64_w _).trans hji32
            by_cases c33 : 0 ≤ (ji32)
            ·rw [if_pos c33] at H
             have c33b0 := eq_true c33
             have c33b1 : decide (0 ≤ (ji32)) = true := decide_eq_true c33
             clear c33
             by_cases c34 : (ji32) ≤ (t283.size : Int)
             ·rw [if_pos c34] at H
              have c34b0 := eq_true c34
              have c34b1 : decide ((ji32) ≤ (t283.size : Int)) = true := decide_eq_true c34
              clear c34
              by_cases c35 : ((t283.extract 0 ((ji26) : Int).toNat) ++ (strOfNums y287)).size + (t283.extract ((ji32) : Int).toNat t283.size).size ≤ 9223372036854775807
              ·rw [if_pos c35] at H
               have c35b0 := eq_true c35
               have c35b1 : decide (((t283.extract 0 ((ji26) : Int).toNat) ++ (strOfNums y287)).size + (t283.extract ((ji32) : Int).toNat t283.size).size ≤ 9223372036854775807) = true := decide_eq_true c35
               (try (have c35s0 : (9223372036854775807 < (((ji26) : Int).toNat + (strOfNums y287).size) + ((t283.size - ((ji32) : Int).toNat))) = False := by have h_ := c35; simp only [ByteArray.size_append, ByteArray.size_extract] at h_; exact eq_false (by first | omega | (have h2_0 : (((ji26) : Int) : Int) ≤ (t283.size : Int) := of_decide_eq_true (by first | (with_reducible assumption) | assumption); omega))))
               (try (have c35s1 : ((((ji26) : Int).toNat + (strOfNums y287).size) + ((t283.size - ((ji32) : Int).toNat)) ≤ 9223372036854775807) = True := by have h_ := c35; simp only [ByteArray.size_append, Int.natCast_add, Int.toNat_natCast] at h_; first | exact eq_true h_ | exact eq_true (by omega)))
               (try (have c35s2 : decide ((((ji26) : Int).toNat + (strOfNums y287).size) + ((t283.size - ((ji32) : Int).toNat)) ≤ 9223372036854775807) = true := by have h_ := c35; first | (simp only [ByteArray.size_append, Int.toNat_natCast] at h_; first | exact beq_iff_eq.mpr h_ | exact beq_eq_false_iff_ne.mpr h_ | exact bne_iff_ne.mpr h_ | exact bne_eq_false_iff_eq.mpr h_ | (rw [beq_iff_eq.mpr h_]; rfl) | (rw [beq_eq_false_iff_ne.mpr h_]; rfl)) | (simp only [ByteArray.size_append, Int.natCast_add, Int.toNat_natCast] at h_ ⊢; first | exact h_ | simpa using h_ | simp [h_] | omega) | (simp only [ByteArray.size_append] at h_; simp at h_ ⊢; omega) | (simp only [ByteArray.size_append, Int.natCast_add, Int.toNat_natCast] at h_; simpa using h_)))
               try have c35b2 : (9223372036854775807 < ((t283.extract 0 ((ji26) : Int).toNat) ++ (strOfNums y287)).size + (t283.extract ((ji32) : Int).toNat t283.size).size) = False := eq_false (Nat.not_lt.2 c35)
               replace H := Option.bind_eq_some_iff.mp H
               obtain ⟨⟨t290, t291, t292, t293⟩, A360, H⟩ := H
               replace H : (if t293 = 0 then (if a0_0 = true then (none) else (if 6 < ((((t283.extract 0 ((ji26) : Int).toNat) ++ (strOfNums y287)) ++ (t283.extract ((ji32) : Int).toNat t283.size)).size : Int) then (if (bt (((t283.extract 0 ((ji26) : Int).toNat) ++ (strOfNums y287)) ++ (t283.extract ((ji32) : Int).toNat t283.size)) 6) = 0 then (if 7 < ((((t283.extract 0 ((ji26) : Int).toNat) ++ (strOfNums y287)) ++ (t283.extract ((ji32) : Int).toNat t283.size)).size : Int) then (if (bt (((t283.extract 0 ((ji26) : Int).toNat) ++ (strOfNums y287)) ++ (t283.extract ((ji32) : Int).toNat t283.size)) 7) = 0 then ((intrusionlaw13_awake.f kj14).bind fun t295 => (some t295)) else (none)) else (none)) else (none)) else (none))) else (if t293 = 8 then ((intrusionlaw13_awake.f kj14).bind fun t296 => (some t296)) else (none))) = some r := H
               have A36 := Aside0.mk A360
               clear A360
               by_cases c37 : t293 = 0
               ·rw [if_pos c37] at H
                have c37b0 : (t293 == 0) = true := beq_iff_eq.mpr c37
                have c37b1 : (t293 != 0) = false := bne_eq_false_iff_eq.mpr c37
                clear c37
                by_cases c38 : a0_0 = true
                ·subst c38
                 have H1 : (none) = some r := by rw [if_pos rfl] at H; exact H
                 clear H
                 have H := H1
                 clear H1
                 exact absurd H (by simp)
                ·replace c38 := Bool.eq_false_iff.mpr c38
                 subst c38
                 have H1 : (if 6 < ((((t283.extract 0 ((ji26) : Int).toNat) ++ (strOfNums y287)) ++ (t283.extract ((ji32) : Int).toNat t283.size)).size : Int) then (if (bt (((t283.extract 0 ((ji26) : Int).toNat) ++ (strOfNums y287)) ++ (t283.extract ((ji32) : Int).toNat t283.size)) 6) = 0 then (if 7 < ((((t283.extract 0 ((ji26) : Int).toNat) ++ (strOfNums y287)) ++ (t283.extract ((ji32) : Int).toNat t283.size)).size : Int) then (if (bt (((t283.extract 0 ((ji26) : Int).toNat) ++ (strOfNums y287)) ++ (t283.extract ((ji32) : Int).toNat t283.size)) 7) = 0 then ((intrusionlaw13_awake.f kj14).bind fun t295 => (some t295)) else (none)) else (none)) else (none)) else (none)) = some r := by rw [if_neg (show ¬ (false = true) by decide)] at H; exact H
                 clear H
                 have H := H1
                 clear H1
                 by_cases c39 : 6 < ((((t283.extract 0 ((ji26) : Int).toNat) ++ (strOfNums y287)) ++ (t283.extract ((ji32) : Int).toNat t283.size)).size : Int)
                 ·rw [if_pos c39] at H
                  have c39b0 : decide (6 < ((((t283.extract 0 ((ji26) : Int).toNat) ++ (strOfNums y287)) ++ (t283.extract ((ji32) : Int).toNat t283.size)).size : Int)) = true := decide_eq_true c39
                  have c39b1 : decide (6 < (((t283.extract 0 ((ji26) : Int).toNat) ++ (strOfNums y287)) ++ (t283.extract ((ji32) : Int).toNat t283.size)).size) = true := decide_eq_true (by omega)
                  (try (have c39b2 : (6 < (max ji26 0 + ((strOfNums y287).size : Int) + ((t283.size - ((ji32) : Int).toNat : Nat) : Int))) = True := by have h_ := c39; simp only [ByteArray.size_append, ByteArray.size_extract] at h_; exact eq_true (by omega)))
                  (try (have c39b3 : (6 < (((t283.extract 0 ((ji26) : Int).toNat).size : Int) + ((strOfNums y287).size : Int) + ((t283.extract ((ji32) : Int).toNat t283.size).size : Int))) = True := by have h_ := c39; simp only [ByteArray.size_append, Int.natCast_add, Int.toNat_natCast] at h_; first | exact eq_true h_ | exact eq_true (by omega)))
                  (try (have c39b4 : decide (6 < (((t283.extract 0 ((ji26) : Int).toNat).size : Int) + ((strOfNums y287).size : Int) + ((t283.extract ((ji32) : Int).toNat t283.size).size : Int))) = true := by have h_ := c39; first | (simp only [ByteArray.size_append, Int.toNat_natCast] at h_; first | exact beq_iff_eq.mpr h_ | exact beq_eq_false_iff_ne.mpr h_ | exact bne_iff_ne.mpr h_ | exact bne_eq_false_iff_eq.mpr h_ | (rw [beq_iff_eq.mpr h_]; rfl) | (rw [beq_eq_false_iff_ne.mpr h_]; rfl)) | (simp only [ByteArray.size_append, Int.natCast_add, Int.toNat_natCast] at h_ ⊢; first | exact h_ | simpa using h_ | simp [h_] | omega) | (simp only [ByteArray.size_append] at h_; simp at h_ ⊢; omega) | (simp only [ByteArray.size_append, Int.natCast_add, Int.toNat_natCast] at h_; simpa using h_)))
                  (try (have c39b5 : (6 < (((ji26) : Int).toNat + (strOfNums y287).size + (t283.size - ((ji32) : Int).toNat))) = True := by have h_ := c39; simp only [ByteArray.size_append, Int.natCast_add, Int.toNat_natCast] at h_; first | exact eq_true h_ | exact eq_true (by omega)))
                  (try (have c39b6 : decide (6 < (((ji26) : Int).toNat + (strOfNums y287).size + (t283.size - ((ji32) : Int).toNat))) = true := by have h_ := c39; first | (simp only [ByteArray.size_append, Int.toNat_natCast] at h_; first | exact beq_iff_eq.mpr h_ | exact beq_eq_false_iff_ne.mpr h_ | exact bne_iff_ne.mpr h_ | exact bne_eq_false_iff_eq.mpr h_ | (rw [beq_iff_eq.mpr h_]; rfl) | (rw [beq_eq_false_iff_ne.mpr h_]; rfl)) | (simp only [ByteArray.size_append, Int.natCast_add, Int.toNat_natCast] at h_ ⊢; first | exact h_ | simpa using h_ | simp [h_] | omega) | (simp only [ByteArray.size_append] at h_; simp at h_ ⊢; omega) | (simp only [ByteArray.size_append, Int.natCast_add, Int.toNat_natCast] at h_; simpa using h_)))
                  clear c39
                  by_cases c41 : (bt (((t283.extract 0 ((ji26) : Int).toNat) ++ (strOfNums y287)) ++ (t283.extract ((ji32) : Int).toNat t283.size)) 6) = 0
                  ·rw [if_pos c41] at H
                   have c41b0 : ((bt (((t283.extract 0 ((ji26) : Int).toNat) ++ (strOfNums y287)) ++ (t283.extract ((ji32) : Int).toNat t283.size)) 6) == 0) = true := beq_iff_eq.mpr c41
                   have c41b1 : ((bt (((t283.extract 0 ((ji26) : Int).toNat) ++ (strOfNums y287)) ++ (t283.extract ((ji32) : Int).toNat t283.size)) 6) != 0) = false := bne_eq_false_iff_eq.mpr c41
                   clear c41
                   by_cases c42 : 7 < ((((t283.extract 0 ((ji26) : Int).toNat) ++ (strOfNums y287)) ++ (t283.extract ((ji32) : Int).toNat t283.size)).size : Int)
                   ·rw [if_pos c42] at H
                    have c42b0 : decide (7 < ((((t283.extract 0 ((ji26) : Int).toNat) ++ (strOfNums y287)) ++ (t283.extract ((ji32) : Int).toNat t283.size)).size : Int)) = true := decide_eq_true c42
                    have c42b1 : decide (7 < (((t283.extract 0 ((ji26) : Int).toNat) ++ (strOfNums y287)) ++ (t283.extract ((ji32) : Int).toNat t283.size)).size) = true := decide_eq_true (by omega)
                    (try (have c42b2 : (7 < (max ji26 0 + ((strOfNums y287).size : Int) + ((t283.size - ((ji32) : Int).toNat : Nat) : Int))) = True := by have h_ := c42; simp only [ByteArray.size_append, ByteArray.size_extract] at h_; exact eq_true (by omega)))
                    (try (have c42b3 : (7 < (((t283.extract 0 ((ji26) : Int).toNat).size : Int) + ((strOfNums y287).size : Int) + ((t283.extract ((ji32) : Int).toNat t283.size).size : Int))) = True := by have h_ := c42; simp only [ByteArray.size_append, Int.natCast_add, Int.toNat_natCast] at h_; first | exact eq_true h_ | exact eq_true (by omega)))
                    (try (have c42b4 : decide (7 < (((t283.extract 0 ((ji26) : Int).toNat).size : Int) + ((strOfNums y287).size : Int) + ((t283.extract ((ji32) : Int).toNat t283.size).size : Int))) = true := by have h_ := c42; first | (simp only [ByteArray.size_append, Int.toNat_natCast] at h_; first | exact beq_iff_eq.mpr h_ | exact beq_eq_false_iff_ne.mpr h_ | exact bne_iff_ne.mpr h_ | exact bne_eq_false_iff_eq.mpr h_ | (rw [beq_iff_eq.mpr h_]; rfl) | (rw [beq_eq_false_iff_ne.mpr h_]; rfl)) | (simp only [ByteArray.size_append, Int.natCast_add, Int.toNat_natCast] at h_ ⊢; first | exact h_ | simpa using h_ | simp [h_] | omega) | (simp only [ByteArray.size_append] at h_; simp at h_ ⊢; omega) | (simp only [ByteArray.size_append, Int.natCast_add, Int.toNat_natCast] at h_; simpa using h_)))
                    (try (have c42b5 : (7 < (((ji26) : Int).toNat + (strOfNums y287).size + (t283.size - ((ji32) : Int).toNat))) = True := by have h_ := c42; simp only [ByteArray.size_append, Int.natCast_add, Int.toNat_natCast] at h_; first | exact eq_true h_ | exact eq_true (by omega)))
                    (try (have c42b6 : decide (7 < (((ji26) : Int).toNat + (strOfNums y287).size + (t283.size - ((ji32) : Int).toNat))) = true := by have h_ := c42; first | (simp only [ByteArray.size_append, Int.toNat_natCast] at h_; first | exact beq_iff_eq.mpr h_ | exact beq_eq_false_iff_ne.mpr h_ | exact bne_iff_ne.mpr h_ | exact bne_eq_false_iff_eq.mpr h_ | (rw [beq_iff_eq.mpr h_]; rfl) | (rw [beq_eq_false_iff_ne.mpr h_]; rfl)) | (simp only [ByteArray.size_append, Int.natCast_add, Int.toNat_natCast] at h_ ⊢; first | exact h_ | simpa using h_ | simp [h_] | omega) | (simp only [ByteArray.size_append] at h_; simp at h_ ⊢; omega) | (simp only [ByteArray.size_append, Int.natCast_add, Int.toNat_natCast] at h_; simpa using h_)))
                    clear c42
                    by_cases c44 : (bt (((t283.extract 0 ((ji26) : Int).toNat) ++ (strOfNums y287)) ++ (t283.extract ((ji32) : Int).toNat t283.size)) 7) = 0
                    ·rw [if_pos c44] at H
                     have c44b0 : ((bt (((t283.extract 0 ((ji26) : Int).toNat) ++ (strOfNums y287)) ++ (t283.extract ((ji32) : Int).toNat t283.size)) 7) == 0) = true := beq_iff_eq.mpr c44
                     have c44b1 : ((bt (((t283.extract 0 ((ji26) : Int).toNat) ++ (strOfNums y287)) ++ (t283.extract ((ji32) : Int).toNat t283.size)) 7) != 0) = false := bne_eq_false_iff_eq.mpr c44
                     clear c44
                     replace H := Option.bind_eq_some_iff.mp H
                     obtain ⟨t295, A450, H⟩ := H
                     replace H : (some t295) = some r := H
                     have A45 := Aside0.mk A450
                     clear A450
                     obtain rfl := Option.some.inj H
                     try go_wp2
                     have n0_ := Aside0.mk (blk_drew BK280.out)
                     have n1_ := Aside0.mk (blk_drew BK281.out)
                     have n2_ := Aside0.mk (below_drew1 HB.out)
                     clear BK280
                     clear BK281
                     clear HB
                     have BK280 := n0_
                     have BK281 := n1_
                     have HB := n2_
                     clear n0_ n1_ n2_
                     have p30 : 0 ≤ ((ji26) : Int) := of_decide_eq_true (by first | (with_reducible assumption) | assumption)
                     have q30 : (ji26) < (t283.size : Int) := of_decide_eq_true (by first | (with_reducible assumption) | assumption)
                     have hx30 := bt_at t283 (ji26)
                     replace p30 := eq_true p30
                     replace q30 := eq_true q30
                     refine start_ (n := 19) (S := fun w' => True) (ds := []) #[false, false, false, false, false, false, false, false, false, false, false, false, false, false, false, false, false, false, false] (by kernel_rfl) rfl rfl trivial (fun hHeld => ?_); refine with_tabW intrusionlaw13_UdpDetects.tab12 intrusionlaw13_UdpDetects.bits12 (fun HT_ HW_ => ?_)
                     generalize wc.drew = w46 at BK280 BK281 HB hHeld ⊢
                     refine pure_ (i := 0) (N := some 55) (v := ?_) (a' := ?_) #[true, false, false, false, false, false, false, false, false, false, false, false, false, false, false, false, false, false, false] rfl rfl (any_of HT_.out (by kernel_rfl)) (fun _ _ _ h => h) (Or.inl ⟨by rfl, ?_⟩) ?_ ?_
                     rotate_left
                     ·intro w'
                      go_simp
                      with_reducible rfl
                     rotate_left
                     ·simp only [Act.put, List.setIfInBounds_toArray, List.set_cons_zero, List.set_cons_succ, i64_w, i32_w]
                      rfl
                     refine pure_ (i := 1) (N := some 56) (v := ?_) (a' := ?_) #[true, true, false, false, false, false, false, false, false, false, false, false, false, false, false, false, false, false, false] rfl rfl (any_of HT_.out (by kernel_rfl)) (fun _ _ _ h => h) (Or.inl ⟨by rfl, ?_⟩) ?_ ?_
                     rotate_left
                     ·intro w'
                      go_simp
                      with_reducible rfl
                     rotate_left
                     ·simp only [Act.put, List.setIfInBounds_toArray, List.set_cons_zero, List.set_cons_succ, i64_w, i32_w]
                      rfl
                     refine pure_ (i := 2) (N := some 57) (v := ?_) (a' := ?_) #[true, true, true, false, false, false, false, false, false, false, false, false, false, false, false, false, false, false, false] rfl rfl (any_of HT_.out (by kernel_rfl)) (fun _ _ _ h => h) (Or.inl ⟨by rfl, ?_⟩) ?_ ?_
                     rotate_left
                     ·intro w'
                      go_simp
                      with_reducible rfl
                     rotate_left
                     ·simp only [Act.put, List.setIfInBounds_toArray, List.set_cons_zero, List.set_cons_succ, i64_w, i32_w]
                      rfl
                     refine pure_ (i := 3) (N := some 58) (v := ?_) (a' := ?_) #[true, true, true, true, false, false, false, false, false, false, false, false, false, false, false, false, false, false, false] rfl rfl (any_of HT_.out (by kernel_rfl)) (fun _ _ _ h => h) (Or.inl ⟨by rfl, ?_⟩) ?_ ?_
                     rotate_left
                     ·intro w'
                      go_simp
                      with_reducible rfl
                     rotate_left
                     ·simp only [Act.put, List.setIfInBounds_toArray, List.set_cons_zero, List.set_cons_succ, i64_w, i32_w]
                      rfl
                     refine pure_ (i := 4) (N := some 59) (v := ?_) (a' := ?_) #[true, true, true, true, true, false, false, false, false, false, false, false, false, false, false, false, false, false, false] rfl rfl (any_of HT_.out (by kernel_rfl)) (fun _ _ _ h => h) (Or.inl ⟨by rfl, ?_⟩) ?_ ?_
                     rotate_left
                     ·intro w'
                      go_simp
                      with_reducible rfl
                     rotate_left
                     ·simp only [Act.put, List.setIfInBounds_toArray, List.set_cons_zero, List.set_cons_succ, i64_w, i32_w]
                      rfl
                     refine pure_ (i := 7) (N := some 62) (v := ?_) (a' := ?_) #[true, true, true, true, true, false, false, true, false, false, false, false, false, false, false, false, false, false, false] rfl rfl (any_of HT_.out (by kernel_rfl)) (fun _ _ _ h => h) (Or.inl ⟨by rfl, ?_⟩) ?_ ?_
                     rotate_left
                     ·intro w'
                      go_simp
                      with_reducible rfl
                     rotate_left
                     ·simp only [Act.put, List.setIfInBounds_toArray, List.set_cons_zero, List.set_cons_succ, i64_w, i32_w]
                      rfl
                     refine pure_ (i := 13) (N := some 68) (v := ?_) (a' := ?_) #[true, true, true, true, true, false, false, true, false, false, false, false, false, true, false, false, false, false, false] rfl rfl (any_of HT_.out (by kernel_rfl)) (fun _ _ _ h => h) (Or.inl ⟨by rfl, ?_⟩) ?_ ?_
                     rotate_left
                     ·intro w'
                      go_simp
                      with_reducible rfl
                     rotate_left
                     ·simp only [Act.put, List.setIfInBounds_toArray, List.set_cons_zero, List.set_cons_succ, i64_w, i32_w]
                      rfl
                     refine pure_ (i := 14) (N := some 69) (v := ?_) (a' := ?_) #[true, true, true, true, true, false, false, true, false, false, false, false, false, true, true, false, false, false, false] rfl rfl (any_of HT_.out (by kernel_rfl)) (fun _ _ _ h => h) (Or.inl ⟨by rfl, ?_⟩) ?_ ?_
                     rotate_left
                     ·intro w'
                      go_simp
                      with_reducible rfl
                     rotate_left
                     ·simp only [Act.put, List.setIfInBounds_toArray, List.set_cons_zero, List.set_cons_succ, i64_w, i32_w]
                      rfl
                     refine pure_ (i := 15) (N := some 70) (v := ?_) (a' := ?_) #[true, true, true, true, true, false, false, true, false, false, false, false, false, true, true, true, false, false, false] rfl rfl (any_of HT_.out (by kernel_rfl)) (fun _ _ _ h => h) (Or.inl ⟨by rfl, ?_⟩) ?_ ?_
                     rotate_left
                     ·intro w'
                      go_simp
                      with_reducible rfl
                     rotate_left
                     ·simp only [Act.put, List.setIfInBounds_toArray, List.set_cons_zero, List.set_cons_succ, i64_w, i32_w]
                      rfl
                     refine pure_ (i := 16) (N := some 71) (v := ?_) (a' := ?_) #[true, true, true, true, true, false, false, true, false, false, false, false, false, true, true, true, true, false, false] rfl rfl (any_of HT_.out (by kernel_rfl)) (fun _ _ _ h => h) (Or.inl ⟨by rfl, ?_⟩) ?_ ?_
                     rotate_left
                     ·intro w'
                      go_simp
                      with_reducible rfl
                     rotate_left
                     ·simp only [Act.put, List.setIfInBounds_toArray, List.set_cons_zero, List.set_cons_succ, i64_w, i32_w]
                      rfl
                     refine take_ (i := 5) (N := some 60) (v := ?_) (a' := ?_) #[true, true, true, true, true, true, false, true, false, false, false, false, false, true, true, true, true, false, false] rfl rfl (take_ofW HT_.out HW_.out (by kernel_rfl)) (fun _ _ _ h => h) (Or.inl ⟨by rfl, ?_⟩) hHeld ?_ ?_
                     rotate_left
                     ·intro w' _
                      go_simp
                      with_reducible rfl
                     rotate_left
                     ·simp only [Act.put, List.setIfInBounds_toArray, List.set_cons_zero, List.set_cons_succ, i64_w, i32_w]
                      rfl
                     refine pure_ (i := 6) (N := some 61) (v := ?_) (a' := ?_) #[true, true, true, true, true, true, true, true, false, false, false, false, false, true, true, true, true, false, false] rfl rfl (any_of HT_.out (by kernel_rfl)) (fun _ _ _ h => h) (Or.inl ⟨by rfl, ?_⟩) ?_ ?_
                     rotate_left
                     ·intro w'
                      go_simp
                      with_reducible rfl
                     rotate_left
                     ·simp only [Act.put, List.setIfInBounds_toArray, List.set_cons_zero, List.set_cons_succ, i64_w, i32_w]
                      rfl
                     refine pure_ (i := 8) (N := some 63) (v := ?_) (a' := ?_) #[true, true, true, true, true, true, true, true, true, false, false, false, false, true, true, true, true, false, false] rfl rfl (any_of HT_.out (by kernel_rfl)) (fun _ _ _ h => h) (Or.inl ⟨by rfl, ?_⟩) ?_ ?_
                     rotate_left
                     ·intro w'
                      go_simp
                      with_reducible rfl
                     rotate_left
                     ·simp only [Act.put, List.setIfInBounds_toArray, List.set_cons_zero, List.set_cons_succ, i64_w, i32_w]
                      rfl
                     refine pure_ (i := 9) (N := some 64) (v := ?_) (a' := ?_) #[true, true, true, true, true, true, true, true, true, true, false, false, false, true, true, true, true, false, false] rfl rfl (any_of HT_.out (by kernel_rfl)) (fun _ _ _ h => h) (Or.inl ⟨by rfl, ?_⟩) ?_ ?_
                     rotate_left
                     ·intro w'
                      go_simp
                      with_reducible rfl
                     rotate_left
                     ·simp only [Act.put, List.setIfInBounds_toArray, List.set_cons_zero, List.set_cons_succ, i64_w, i32_w]
                      rfl
                     refine one_ (i := 10) (N := some 65) #[true, true, true, true, true, true, true, true, true, true, true, false, false, true, true, true, true, false, false] rfl rfl (one_of HT_.out (by kernel_rfl)) (by decide) (fun K hK => ?_)
                     refine Kd.R_lit_step (Kd.int .u8) _ 5 ?hg (N := 65) ?hd (xs := ([(wrap64 ((wrap64 (bt t283 (ji26))) + (wrap64 (1 + (Int.tmod (wrap64 (Int.tdiv (wrap64 (a2)) 256)) 255))))) % 256] : List Int)) (inner := [.int .u8 ((wrap64 ((wrap64 (bt t283 (ji26))) + (wrap64 (1 + (Int.tmod (wrap64 (Int.tdiv (wrap64 (a2)) 256)) 255))))) % 256)]) (ok := fun _ => True) (okp := fun _ => True) ?hr ?hp (fun _ hk => hk) trivial (Below.refl _ _) (Nat.le_refl _) (by simp) ?_; (case hd => rfl); (case hg => rfl); (case hr => first | (go_simp; done) | (go_simp; rfl)); (case hp => exact (Reps.one (show Kd.M (Kd.int .u8) _ _ _ ((wrap64 ((wrap64 (bt t283 (ji26))) + (wrap64 (1 + (Int.tmod (wrap64 (Int.tdiv (wrap64 (a2)) 256)) 255))))) % 256) [.int .u8 ((wrap64 ((wrap64 (bt t283 (ji26))) + (wrap64 (1 + (Int.tmod (wrap64 (Int.tdiv (wrap64 (a2)) 256)) 255))))) % 256)] from rfl) (Reps.none _ _)))
                     intro v288 w47 ho48 hb hg_ hnew_
                     clear hg_ hnew_
                     (first | rw [← Ny287.out] at ho48 | (simp only [Int.reduceToNat] at ho48; rw [← Ny287.out] at ho48))
                     have n0_ := Aside0.mk (Kd.R_lower ho48 (below_size (by repeat (first | (with_reducible first | exact HB.out | apply below_alloc | apply pw_below_drewN | apply below_drew1 | refine below_set ?_ GE280.out | refine below_set ?_ GE281.out) | exact HB.out))))
                     have n1_ := Aside0.mk (blk_below (g := gb280) (o := .cells #[.bool false, .int .u64 a0_1, .int .u64 a0_2, .bool a0_3, .int .u64 a0_4, .int .u64 a0_5] 26 (0, 0)) (by (with_reducible repeat (first | refine blk_drewN ?_ _ | refine blk_drew ?_ | refine blk_alloc ?_ _)); exact BK280.out) hb)
                     have n2_ := Aside0.mk (blk_below (g := gb281) (o := .cells #[.int .i64 a1_0, .int .i64 a1_1, .string a1_2] 29 (0, 0)) (by (with_reducible repeat (first | refine blk_drewN ?_ _ | refine blk_drew ?_ | refine blk_alloc ?_ _)); exact BK281.out) hb)
                     have n3_ := Aside0.mk (below_step (by repeat (first | (with_reducible first | exact HB.out | apply below_alloc | apply pw_below_drewN | apply below_drew1 | refine below_set ?_ GE280.out | refine below_set ?_ GE281.out) | exact HB.out)) hb)
                     clear BK280
                     clear BK281
                     clear HB
                     have HO289 := n0_
                     have BK280 := n1_
                     have BK281 := n2_
                     have HB := n3_
                     clear n0_ n1_ n2_ n3_
                     clear hb ho48
                     refine hK.out _ _ trivial (fun hHeld => ?_)
                     clear hK K
                     refine norm_ (a' := ?_) ?_ ?_
                     rotate_left
                     ·show Act.put _ (some 65) _ = _
                      simp only [Act.put, List.setIfInBounds_toArray, List.set_cons_zero, List.set_cons_succ, i64_w, i32_w]
                      rfl
                     refine one_ (i := 11) (N := some 66) #[true, true, true, true, true, true, true, true, true, true, true, true, false, true, true, true, true, false, false] rfl rfl (one_of HT_.out (by kernel_rfl)) (by decide) (fun K hK => ?_)
                     have hcv49 := own_string (P := Tryd.prog) Tryd.underlying39 Tryd.underlying5 Tryd.underlying9 (Kd.own_of_R HO289.out)
                     refine value_ (w1 := ?_) (v := ?_) (by rfl) rfl ?_ ?_
                     rotate_left 2
                     ·go_simp
                      constructor
                      ·rfl
                      ·rfl
                     clear hcv49
                     refine hK.out _ _ trivial (fun hHeld => ?_)
                     clear hK K
                     refine norm_ (a' := ?_) ?_ ?_
                     rotate_left
                     ·show Act.put _ (some 66) _ = _
                      simp only [Act.put, List.setIfInBounds_toArray, List.set_cons_zero, List.set_cons_succ, i64_w, i32_w]
                      rfl
                     refine pure_ (i := 12) (N := some 67) (v := ?_) (a' := ?_) #[true, true, true, true, true, true, true, true, true, true, true, true, true, true, true, true, true, false, false] rfl rfl (any_of HT_.out (by kernel_rfl)) (fun _ _ _ h => h) (Or.inl ⟨by rfl, ?_⟩) ?_ ?_
                     rotate_left
                     ·intro w'
                      go_simp
                      with_reducible rfl
                     rotate_left
                     ·simp only [Act.put, List.setIfInBounds_toArray, List.set_cons_zero, List.set_cons_succ, i64_w, i32_w]
                      rfl
                     refine pure_ (i := 17) (N := some 72) (v := ?_) (a' := ?_) #[true, true, true, true, true, true, true, true, true, true, true, true, true, true, true, true, true, true, false] rfl rfl (any_of HT_.out (by kernel_rfl)) (fun _ _ _ h => h) (Or.inl ⟨by rfl, ?_⟩) ?_ ?_
                     rotate_left
                     ·intro w'
                      go_simp
                      with_reducible rfl
                     rotate_left
                     ·simp only [Act.put, List.setIfInBounds_toArray, List.set_cons_zero, List.set_cons_succ, i64_w, i32_w]
                      rfl
                     refine pure_ (i := 18) (N := some 11) (v := ?_) (a' := ?_) #[true, true, true, true, true, true, true, true, true, true, true, true, true, true, true, true, true, true, true] rfl rfl (any_of HT_.out (by kernel_rfl)) (fun _ _ _ h => h) (Or.inl ⟨by rfl, ?_⟩) ?_ ?_
                     rotate_left
                     ·intro w'
                      go_simp
                      with_reducible rfl
                     rotate_left
                     ·simp only [Act.put, List.setIfInBounds_toArray, List.set_cons_zero, List.set_cons_succ, i64_w, i32_w]
                      rfl
                     refine done_ (done_of HT_.out (by kernel_rfl)) ?_
                     have hnb50 := NB280_281.out
                     have hnc50 := NB281_280.out
                     have hcz51_0 := cells_6 BK280.out
                     have hfz51_0 := fun j_ => blk_frozen BK280.out j_
                     try go_wp2_with (first | ((with_reducible refine gate_callee (f := 8) rfl ?_); refine goesL_ (some 79) rfl rfl Tryd.func8 (by kernel_rfl) rfl #[.agg #[.bool false, .int .u64 a0_1, .int .u64 a0_2], .agg #[.bool a0_3, .int .u64 a0_4, .int .u64 a0_5], .string (((t283.extract 0 ((ji26) : Int).toNat) ++ (strOfNums y287)) ++ (t283.extract ((ji32) : Int).toNat t283.size))] rfl (by (try simp only [List.map_toArray, List.map_cons, List.map_nil]); first | done | (simp only [hji26, hji32]; rfl) | rfl | (simp only [List.length_drop, List.length_take]; rfl)) ?_; (with_reducible refine (udp_Decode.calls kj14 false a0_1 a0_2 a0_3 a0_4 a0_5 (((t283.extract 0 ((ji26) : Int).toNat) ++ (strOfNums y287)) ++ (t283.extract ((ji32) : Int).toNat t283.size)) t290 t291 t292 t293 _ ?side1 A36.out).mono ?_); (case side1 => exact laid_below HLD.out (by repeat (first | (with_reducible first | exact HB.out | apply below_alloc | apply pw_below_drewN | apply below_drew1 | refine below_set ?_ GE280.out | refine below_set ?_ GE281.out) | exact HB.out))); rintro e w52 ⟨rfl, hb⟩; refine ⟨_, rfl, ?_⟩; have n0_ := Aside0.mk (Kd.R_below (by (with_reducible repeat (first | apply Kd.R_alloc | apply Kd.R_drewN | apply Kd.R_drew)); exact HO289.out) hb); have n1_ := Aside0.mk (blk_below (g := gb280) (o := .cells #[.bool false, .int .u64 a0_1, .int .u64 a0_2, .bool a0_3, .int .u64 a0_4, .int .u64 a0_5] 26 (0, 0)) (by (with_reducible repeat (first | refine blk_drewN ?_ _ | refine blk_drew ?_ | refine blk_alloc ?_ _)); exact BK280.out) hb); have n2_ := Aside0.mk (blk_below (g := gb281) (o := .cells #[.int .i64 a1_0, .int .i64 a1_1, .string a1_2] 29 (0, 0)) (by (with_reducible repeat (first | refine blk_drewN ?_ _ | refine blk_drew ?_ | refine blk_alloc ?_ _)); exact BK281.out) hb); have n3_ := Aside0.mk (below_step (by repeat (first | (with_reducible first | exact HB.out | apply below_alloc | apply pw_below_drewN | apply below_drew1 | refine below_set ?_ GE280.out | refine below_set ?_ GE281.out) | exact HB.out)) hb); clear HO289; clear BK280; clear BK281; clear HB; have HO289 := n0_; have BK280 := n1_; have BK281 := n2_; have HB := n3_; clear n0_ n1_ n2_ n3_; (try clear hb); (try clear hb2); (try clear hk); (try clear hi)) | ((with_reducible refine gate_dst (N := 12) rfl ?_); refine box_event ?hg (N := 12) ?hd (cs := #[.int .i64 0, .int .i64 0, .string (⟨#[]⟩ : ByteArray)]) (t := 29) ?hr ?_; (case hd => rfl); (case hg => rfl); (case hr => first | (go_simp; done) | (go_simp; rfl)); intro gb294 hg w53 hbox hb; have n0_ := Aside0.mk (Kd.R_below (by (with_reducible repeat (first | apply Kd.R_alloc | apply Kd.R_drewN | apply Kd.R_drew)); exact HO289.out) hb); have n1_ := Aside0.mk (blk_below (g := gb280) (o := .cells #[.bool false, .int .u64 a0_1, .int .u64 a0_2, .bool a0_3, .int .u64 a0_4, .int .u64 a0_5] 26 (0, 0)) (by (with_reducible repeat (first | refine blk_drewN ?_ _ | refine blk_drew ?_ | refine blk_alloc ?_ _)); exact BK280.out) hb); have n2_ := Aside0.mk (blk_below (g := gb281) (o := .cells #[.int .i64 a1_0, .int .i64 a1_1, .string a1_2] 29 (0, 0)) (by (with_reducible repeat (first | refine blk_drewN ?_ _ | refine blk_drew ?_ | refine blk_alloc ?_ _)); exact BK281.out) hb); have n3_ := Aside0.mk (below_step (by repeat (first | (with_reducible first | exact HB.out | apply below_alloc | apply pw_below_drewN | apply below_drew1 | refine below_set ?_ GE280.out | refine below_set ?_ GE281.out) | exact HB.out)) hb); have n4_ := Aside0.mk (hbox); have n5_ := Aside0.mk ((by rw [hg]; exact (below_size (by repeat (first | (with_reducible first | exact HB.out | apply below_alloc | apply pw_below_drewN | apply below_drew1 | refine below_set ?_ GE280.out | refine below_set ?_ GE281.out) | exact HB.out))) : w.heap.size ≤ gb294)); have n6_ := Aside0.mk ((by rw [hg]; exact (below_size (by repeat (first | (with_reducible first | exact HB.out | apply below_alloc | apply pw_below_drewN | apply below_drew1 | refine below_set ?_ GE280.out | refine below_set ?_ GE281.out) | exact HB.out))) : w.heap.size ≤ gb294)); have n7_ := Aside0.mk ((by rw [hg]; exact Nat.ne_of_lt (blk_lt (g := gb280) (o := .cells #[.bool false, .int .u64 a0_1, .int .u64 a0_2, .bool a0_3, .int .u64 a0_4, .int .u64 a0_5] 26 (0, 0)) (by (with_reducible repeat (first | refine blk_drewN ?_ _ | refine blk_drew ?_ | refine blk_alloc ?_ _)); exact BK280.out)) : gb280 ≠ gb294)); have n8_ := Aside0.mk ((by rw [hg]; exact Nat.ne_of_gt (blk_lt (g := gb280) (o := .cells #[.bool false, .int .u64 a0_1, .int .u64 a0_2, .bool a0_3, .int .u64 a0_4, .int .u64 a0_5] 26 (0, 0)) (by (with_reducible repeat (first | refine blk_drewN ?_ _ | refine blk_drew ?_ | refine blk_alloc ?_ _)); exact BK280.out)) : gb294 ≠ gb280)); have n9_ := Aside0.mk ((by rw [hg]; exact Nat.ne_of_lt (blk_lt (g := gb281) (o := .cells #[.int .i64 a1_0, .int .i64 a1_1, .string a1_2] 29 (0, 0)) (by (with_reducible repeat (first | refine blk_drewN ?_ _ | refine blk_drew ?_ | refine blk_alloc ?_ _)); exact BK281.out)) : gb281 ≠ gb294)); have n10_ := Aside0.mk ((by rw [hg]; exact Nat.ne_of_gt (blk_lt (g := gb281) (o := .cells #[.int .i64 a1_0, .int .i64 a1_1, .string a1_2] 29 (0, 0)) (by (with_reducible repeat (first | refine blk_drewN ?_ _ | refine blk_drew ?_ | refine blk_alloc ?_ _)); exact BK281.out)) : gb294 ≠ gb281)); clear HO289; clear BK280; clear BK281; clear HB; have HO289 := n0_; have BK280 := n1_; have BK281 := n2_; have HB := n3_; have BK294 := n4_; have GW294 := n5_; have GE294 := n6_; have NB280_294 := n7_; have NB294_280 := n8_; have NB281_294 := n9_; have NB294_281 := n10_; clear n0_ n1_ n2_ n3_ n4_ n5_ n6_ n7_ n8_ n9_ n10_; clear hb hbox hg; have hnb54 := NB294_280.out; have hnc54 := NB280_294.out; have hnb55 := NB294_281.out; have hnc55 := NB281_294.out; have hcz56_0 := cells_3 BK294.out; have hfz56_0 := fun j_ => blk_frozen BK294.out j_; have hcz57_0 := cells_6 BK280.out; have hfz57_0 := fun j_ => blk_frozen BK280.out j_; have p40 : 0 ≤ (6 : Int) := (by omega); have q40 : 6 < (((t283.extract 0 ((ji26) : Int).toNat) ++ (strOfNums y287)) ++ (t283.extract ((ji32) : Int).toNat t283.size)).size := (by have : (6 : Int) < ((((t283.extract 0 ((ji26) : Int).toNat) ++ (strOfNums y287)) ++ (t283.extract ((ji32) : Int).toNat t283.size)).size : Int) := of_decide_eq_true (by first | (with_reducible assumption) | assumption); omega); have hx40 : ∀ h : 6 < (((t283.extract 0 ((ji26) : Int).toNat) ++ (strOfNums y287)) ++ (t283.extract ((ji32) : Int).toNat t283.size)).size, (((((t283.extract 0 ((ji26) : Int).toNat) ++ (strOfNums y287)) ++ (t283.extract ((ji32) : Int).toNat t283.size))[6]'h).toNat : Int) = bt (((t283.extract 0 ((ji26) : Int).toNat) ++ (strOfNums y287)) ++ (t283.extract ((ji32) : Int).toNat t283.size)) 6 := bt_at (((t283.extract 0 ((ji26) : Int).toNat) ++ (strOfNums y287)) ++ (t283.extract ((ji32) : Int).toNat t283.size)) 6; clear p40; have qi40 : (6 < ((((t283.extract 0 ((ji26) : Int).toNat) ++ (strOfNums y287)) ++ (t283.extract ((ji32) : Int).toNat t283.size)).size : Int)) = True := eq_true (of_decide_eq_true (by first | (with_reducible assumption) | assumption)); replace q40 := eq_true q40; have p43 : 0 ≤ (7 : Int) := (by omega); have q43 : 7 < (((t283.extract 0 ((ji26) : Int).toNat) ++ (strOfNums y287)) ++ (t283.extract ((ji32) : Int).toNat t283.size)).size := (by have : (7 : Int) < ((((t283.extract 0 ((ji26) : Int).toNat) ++ (strOfNums y287)) ++ (t283.extract ((ji32) : Int).toNat t283.size)).size : Int) := of_decide_eq_true (by first | (with_reducible assumption) | assumption); omega); have hx43 : ∀ h : 7 < (((t283.extract 0 ((ji26) : Int).toNat) ++ (strOfNums y287)) ++ (t283.extract ((ji32) : Int).toNat t283.size)).size, (((((t283.extract 0 ((ji26) : Int).toNat) ++ (strOfNums y287)) ++ (t283.extract ((ji32) : Int).toNat t283.size))[7]'h).toNat : Int) = bt (((t283.extract 0 ((ji26) : Int).toNat) ++ (strOfNums y287)) ++ (t283.extract ((ji32) : Int).toNat t283.size)) 7 := bt_at (((t283.extract 0 ((ji26) : Int).toNat) ++ (strOfNums y287)) ++ (t283.extract ((ji32) : Int).toNat t283.size)) 7; clear p43; have qi43 : (7 < ((((t283.extract 0 ((ji26) : Int).toNat) ++ (strOfNums y287)) ++ (t283.extract ((ji32) : Int).toNat t283.size)).size : Int)) = True := eq_true (of_decide_eq_true (by first | (with_reducible assumption) | assumption)); replace q43 := eq_true q43) | (go_at_call 7; (with_reducible refine (intrusionlaw13_awake.calls kj14  t295 _ ?side1 A45.out).mono ?_); (case side1 => exact laid_below HLD.out (by repeat (first | (with_reducible first | exact HB.out | apply below_alloc | apply pw_below_drewN | apply below_drew1 | refine below_set ?_ GE280.out | refine below_set ?_ GE281.out | refine below_set ?_ GE294.out) | exact HB.out))); rintro e w58 ⟨rfl, hb⟩; have n0_ := Aside0.mk (Kd.R_below (by (with_reducible repeat (first | apply Kd.R_alloc | apply Kd.R_drewN | apply Kd.R_drew)); exact (Kd.R_mono (Kd.R_puts_0_3 gb294 (.int .i64 t290) (.int .i64 t291) (.string t292) (Kd.R_types HO289.out BK294.out (by decide)) (fun _ hk => hk.2)) (fun _ h_ => h_.1))) hb); have n1_ := Aside0.mk (blk_below (g := gb280) (o := .cells #[.bool false, .int .u64 a0_1, .int .u64 a0_2, .bool a0_3, .int .u64 a0_4, .int .u64 a0_5] 26 (0, 0)) (by (with_reducible repeat (first | refine blk_drewN ?_ _ | refine blk_drew ?_ | refine blk_alloc ?_ _)); (iterate 3 (refine blk_far ?_ NB280_294.out _; (with_reducible repeat (first | refine blk_drewN ?_ _ | refine blk_drew ?_ | refine blk_alloc ?_ _)))); exact BK280.out) hb); have n2_ := Aside0.mk (blk_below (g := gb281) (o := .cells #[.int .i64 a1_0, .int .i64 a1_1, .string a1_2] 29 (0, 0)) (by (with_reducible repeat (first | refine blk_drewN ?_ _ | refine blk_drew ?_ | refine blk_alloc ?_ _)); (iterate 3 (refine blk_far ?_ NB281_294.out _; (with_reducible repeat (first | refine blk_drewN ?_ _ | refine blk_drew ?_ | refine blk_alloc ?_ _)))); exact BK281.out) hb); have n3_ := Aside0.mk (blk_below (g := gb294) (o := .cells #[.int .i64 t290, .int .i64 t291, .string t292] 29 (0, 0)) (by (with_reducible repeat (first | refine blk_drewN ?_ _ | refine blk_drew ?_ | refine blk_alloc ?_ _)); refine blk_all_3 (cs := #[.int .i64 0, .int .i64 0, .string (⟨#[]⟩ : ByteArray)]) ?_ rfl; (with_reducible repeat (first | refine blk_drewN ?_ _ | refine blk_drew ?_ | refine blk_alloc ?_ _)); exact BK294.out) hb); have n4_ := Aside0.mk (below_step (by repeat (first | (with_reducible first | exact HB.out | apply below_alloc | apply pw_below_drewN | apply below_drew1 | refine below_set ?_ GE280.out | refine below_set ?_ GE281.out | refine below_set ?_ GE294.out) | exact HB.out)) hb); clear HO289; clear BK280; clear BK281; clear BK294; clear HB; have HO289 := n0_; have BK280 := n1_; have BK281 := n2_; have BK294 := n3_; have HB := n4_; clear n0_ n1_ n2_ n3_ n4_; (try clear hb); (try clear hb2); (try clear hk); (try clear hi)))
                     go_ret
                     exact ⟨by first | rfl | (simp [errW_none, errW_some] <;> rfl) | (simp only [← hji26, ← hji32]; first | rfl | (simp [errW_none, errW_some] <;> rfl)) | (simp [*, errW_none, errW_some] <;> rfl), by repeat (first | (with_reducible first | exact HB.out | apply below_alloc | apply pw_below_drewN | apply below_drew1 | refine below_set ?_ GE280.out | refine below_set ?_ GE281.out | refine below_set ?_ GE294.out) | exact HB.out)⟩
                    ·rw [if_neg c44] at H
                     exact absurd H (by simp)
                   ·rw [if_neg c42] at H
                    exact absurd H (by simp)
                  ·rw [if_neg c41] at H
                   exact absurd H (by simp)
                 ·rw [if_neg c39] at H
                  exact absurd H (by simp)
               ·rw [if_neg c37] at H
                have c37b0 : (t293 == 0) = false := beq_eq_false_iff_ne.mpr c37
                have c37b1 : (t293 != 0) = true := bne_iff_ne.mpr c37
                by_cases c59 : t293 = 8
                ·rw [if_pos c59] at H
                 have c59b0 : (t293 == 8) = true := beq_iff_eq.mpr c59
                 have c59b1 : (t293 != 8) = false := bne_eq_false_iff_eq.mpr c59
                 clear c59
                 replace H := Option.bind_eq_some_iff.mp H
                 obtain ⟨t296, A600, H⟩ := H
                 replace H : (some t296) = some r := H
                 have A60 := Aside0.mk A600
                 clear A600
                 obtain rfl := Option.some.inj H
                 try go_wp2
                 have n0_ := Aside0.mk (blk_drew BK280.out)
                 have n1_ := Aside0.mk (blk_drew BK281.out)
                 have n2_ := Aside0.mk (below_drew1 HB.out)
                 clear BK280
                 clear BK281
                 clear HB
                 have BK280 := n0_
                 have BK281 := n1_
                 have HB := n2_
                 clear n0_ n1_ n2_
                 have p30 : 0 ≤ ((ji26) : Int) := of_decide_eq_true (by first | (with_reducible assumption) | assumption)
                 have q30 : (ji26) < (t283.size : Int) := of_decide_eq_true (by first | (with_reducible assumption) | assumption)
                 have hx30 := bt_at t283 (ji26)
                 replace p30 := eq_true p30
                 replace q30 := eq_true q30
                 refine start_ (n := 19) (S := fun w' => True) (ds := []) #[false, false, false, false, false, false, false, false, false, false, false, false, false, false, false, false, false, false, false] (by kernel_rfl) rfl rfl trivial (fun hHeld => ?_); refine with_tabW intrusionlaw13_UdpDetects.tab12 intrusionlaw13_UdpDetects.bits12 (fun HT_ HW_ => ?_)
                 generalize wc.drew = w61 at BK280 BK281 HB hHeld ⊢
                 refine pure_ (i := 0) (N := some 55) (v := ?_) (a' := ?_) #[true, false, false, false, false, false, false, false, false, false, false, false, false, false, false, false, false, false, false] rfl rfl (any_of HT_.out (by kernel_rfl)) (fun _ _ _ h => h) (Or.inl ⟨by rfl, ?_⟩) ?_ ?_
                 rotate_left
                 ·intro w'
                  go_simp
                  with_reducible rfl
                 rotate_left
                 ·simp only [Act.put, List.setIfInBounds_toArray, List.set_cons_zero, List.set_cons_succ, i64_w, i32_w]
                  rfl
                 refine pure_ (i := 1) (N := some 56) (v := ?_) (a' := ?_) #[true, true, false, false, false, false, false, false, false, false, false, false, false, false, false, false, false, false, false] rfl rfl (any_of HT_.out (by kernel_rfl)) (fun _ _ _ h => h) (Or.inl ⟨by rfl, ?_⟩) ?_ ?_
                 rotate_left
                 ·intro w'
                  go_simp
                  with_reducible rfl
                 rotate_left
                 ·simp only [Act.put, List.setIfInBounds_toArray, List.set_cons_zero, List.set_cons_succ, i64_w, i32_w]
                  rfl
                 refine pure_ (i := 2) (N := some 57) (v := ?_) (a' := ?_) #[true, true, true, false, false, false, false, false, false, false, false, false, false, false, false, false, false, false, false] rfl rfl (any_of HT_.out (by kernel_rfl)) (fun _ _ _ h => h) (Or.inl ⟨by rfl, ?_⟩) ?_ ?_
                 rotate_left
                 ·intro w'
                  go_simp
                  with_reducible rfl
                 rotate_left
                 ·simp only [Act.put, List.setIfInBounds_toArray, List.set_cons_zero, List.set_cons_succ, i64_w, i32_w]
                  rfl
                 refine pure_ (i := 3) (N := some 58) (v := ?_) (a' := ?_) #[true, true, true, true, false, false, false, false, false, false, false, false, false, false, false, false, false, false, false] rfl rfl (any_of HT_.out (by kernel_rfl)) (fun _ _ _ h => h) (Or.inl ⟨by rfl, ?_⟩) ?_ ?_
                 rotate_left
                 ·intro w'
                  go_simp
                  with_reducible rfl
                 rotate_left
                 ·simp only [Act.put, List.setIfInBounds_toArray, List.set_cons_zero, List.set_cons_succ, i64_w, i32_w]
                  rfl
                 refine pure_ (i := 4) (N := some 59) (v := ?_) (a' := ?_) #[true, true, true, true, true, false, false, false, false, false, false, false, false, false, false, false, false, false, false] rfl rfl (any_of HT_.out (by kernel_rfl)) (fun _ _ _ h => h) (Or.inl ⟨by rfl, ?_⟩) ?_ ?_
                 rotate_left
                 ·intro w'
                  go_simp
                  with_reducible rfl
                 rotate_left
                 ·simp only [Act.put, List.setIfInBounds_toArray, List.set_cons_zero, List.set_cons_succ, i64_w, i32_w]
                  rfl
                 refine pure_ (i := 7) (N := some 62) (v := ?_) (a' := ?_) #[true, true, true, true, true, false, false, true, false, false, false, false, false, false, false, false, false, false, false] rfl rfl (any_of HT_.out (by kernel_rfl)) (fun _ _ _ h => h) (Or.inl ⟨by rfl, ?_⟩) ?_ ?_
                 rotate_left
                 ·intro w'
                  go_simp
                  with_reducible rfl
                 rotate_left
                 ·simp only [Act.put, List.setIfInBounds_toArray, List.set_cons_zero, List.set_cons_succ, i64_w, i32_w]
                  rfl
                 refine pure_ (i := 13) (N := some 68) (v := ?_) (a' := ?_) #[true, true, true, true, true, false, false, true, false, false, false, false, false, true, false, false, false, false, false] rfl rfl (any_of HT_.out (by kernel_rfl)) (fun _ _ _ h => h) (Or.inl ⟨by rfl, ?_⟩) ?_ ?_
                 rotate_left
                 ·intro w'
                  go_simp
                  with_reducible rfl
                 rotate_left
                 ·simp only [Act.put, List.setIfInBounds_toArray, List.set_cons_zero, List.set_cons_succ, i64_w, i32_w]
                  rfl
                 refine pure_ (i := 14) (N := some 69) (v := ?_) (a' := ?_) #[true, true, true, true, true, false, false, true, false, false, false, false, false, true, true, false, false, false, false] rfl rfl (any_of HT_.out (by kernel_rfl)) (fun _ _ _ h => h) (Or.inl ⟨by rfl, ?_⟩) ?_ ?_
                 rotate_left
                 ·intro w'
                  go_simp
                  with_reducible rfl
                 rotate_left
                 ·simp only [Act.put, List.setIfInBounds_toArray, List.set_cons_zero, List.set_cons_succ, i64_w, i32_w]
                  rfl
                 refine pure_ (i := 15) (N := some 70) (v := ?_) (a' := ?_) #[true, true, true, true, true, false, false, true, false, false, false, false, false, true, true, true, false, false, false] rfl rfl (any_of HT_.out (by kernel_rfl)) (fun _ _ _ h => h) (Or.inl ⟨by rfl, ?_⟩) ?_ ?_
                 rotate_left
                 ·intro w'
                  go_simp
                  with_reducible rfl
                 rotate_left
                 ·simp only [Act.put, List.setIfInBounds_toArray, List.set_cons_zero, List.set_cons_succ, i64_w, i32_w]
                  rfl
                 refine pure_ (i := 16) (N := some 71) (v := ?_) (a' := ?_) #[true, true, true, true, true, false, false, true, false, false, false, false, false, true, true, true, true, false, false] rfl rfl (any_of HT_.out (by kernel_rfl)) (fun _ _ _ h => h) (Or.inl ⟨by rfl, ?_⟩) ?_ ?_
                 rotate_left
                 ·intro w'
                  go_simp
                  with_reducible rfl
                 rotate_left
                 ·simp only [Act.put, List.setIfInBounds_toArray, List.set_cons_zero, List.set_cons_succ, i64_w, i32_w]
                  rfl
                 refine take_ (i := 5) (N := some 60) (v := ?_) (a' := ?_) #[true, true, true, true, true, true, false, true, false, false, false, false, false, true, true, true, true, false, false] rfl rfl (take_ofW HT_.out HW_.out (by kernel_rfl)) (fun _ _ _ h => h) (Or.inl ⟨by rfl, ?_⟩) hHeld ?_ ?_
                 rotate_left
                 ·intro w' _
                  go_simp
                  with_reducible rfl
                 rotate_left
                 ·simp only [Act.put, List.setIfInBounds_toArray, List.set_cons_zero, List.set_cons_succ, i64_w, i32_w]
                  rfl
                 refine pure_ (i := 6) (N := some 61) (v := ?_) (a' := ?_) #[true, true, true, true, true, true, true, true, false, false, false, false, false, true, true, true, true, false, false] rfl rfl (any_of HT_.out (by kernel_rfl)) (fun _ _ _ h => h) (Or.inl ⟨by rfl, ?_⟩) ?_ ?_
                 rotate_left
                 ·intro w'
                  go_simp
                  with_reducible rfl
                 rotate_left
                 ·simp only [Act.put, List.setIfInBounds_toArray, List.set_cons_zero, List.set_cons_succ, i64_w, i32_w]
                  rfl
                 refine pure_ (i := 8) (N := some 63) (v := ?_) (a' := ?_) #[true, true, true, true, true, true, true, true, true, false, false, false, false, true, true, true, true, false, false] rfl rfl (any_of HT_.out (by kernel_rfl)) (fun _ _ _ h => h) (Or.inl ⟨by rfl, ?_⟩) ?_ ?_
                 rotate_left
                 ·intro w'
                  go_simp
                  with_reducible rfl
                 rotate_left
                 ·simp only [Act.put, List.setIfInBounds_toArray, List.set_cons_zero, List.set_cons_succ, i64_w, i32_w]
                  rfl
                 refine pure_ (i := 9) (N := some 64) (v := ?_) (a' := ?_) #[true, true, true, true, true, true, true, true, true, true, false, false, false, true, true, true, true, false, false] rfl rfl (any_of HT_.out (by kernel_rfl)) (fun _ _ _ h => h) (Or.inl ⟨by rfl, ?_⟩) ?_ ?_
                 rotate_left
                 ·intro w'
                  go_simp
                  with_reducible rfl
                 rotate_left
                 ·simp only [Act.put, List.setIfInBounds_toArray, List.set_cons_zero, List.set_cons_succ, i64_w, i32_w]
                  rfl
                 refine one_ (i := 10) (N := some 65) #[true, true, true, true, true, true, true, true, true, true, true, false, false, true, true, true, true, false, false] rfl rfl (one_of HT_.out (by kernel_rfl)) (by decide) (fun K hK => ?_)
                 refine Kd.R_lit_step (Kd.int .u8) _ 5 ?hg (N := 65) ?hd (xs := ([(wrap64 ((wrap64 (bt t283 (ji26))) + (wrap64 (1 + (Int.tmod (wrap64 (Int.tdiv (wrap64 (a2)) 256)) 255))))) % 256] : List Int)) (inner := [.int .u8 ((wrap64 ((wrap64 (bt t283 (ji26))) + (wrap64 (1 + (Int.tmod (wrap64 (Int.tdiv (wrap64 (a2)) 256)) 255))))) % 256)]) (ok := fun _ => True) (okp := fun _ => True) ?hr ?hp (fun _ hk => hk) trivial (Below.refl _ _) (Nat.le_refl _) (by simp) ?_; (case hd => rfl); (case hg => rfl); (case hr => first | (go_simp; done) | (go_simp; rfl)); (case hp => exact (Reps.one (show Kd.M (Kd.int .u8) _ _ _ ((wrap64 ((wrap64 (bt t283 (ji26))) + (wrap64 (1 + (Int.tmod (wrap64 (Int.tdiv (wrap64 (a2)) 256)) 255))))) % 256) [.int .u8 ((wrap64 ((wrap64 (bt t283 (ji26))) + (wrap64 (1 + (Int.tmod (wrap64 (Int.tdiv (wrap64 (a2)) 256)) 255))))) % 256)] from rfl) (Reps.none _ _)))
                 intro v288 w62 ho63 hb hg_ hnew_
                 clear hg_ hnew_
                 (first | rw [← Ny287.out] at ho63 | (simp only [Int.reduceToNat] at ho63; rw [← Ny287.out] at ho63))
                 have n0_ := Aside0.mk (Kd.R_lower ho63 (below_size (by repeat (first | (with_reducible first | exact HB.out | apply below_alloc | apply pw_below_drewN | apply below_drew1 | refine below_set ?_ GE280.out | refine below_set ?_ GE281.out) | exact HB.out))))
                 have n1_ := Aside0.mk (blk_below (g := gb280) (o := .cells #[.bool a0_0, .int .u64 a0_1, .int .u64 a0_2, .bool a0_3, .int .u64 a0_4, .int .u64 a0_5] 26 (0, 0)) (by (with_reducible repeat (first | refine blk_drewN ?_ _ | refine blk_drew ?_ | refine blk_alloc ?_ _)); exact BK280.out) hb)
                 have n2_ := Aside0.mk (blk_below (g := gb281) (o := .cells #[.int .i64 a1_0, .int .i64 a1_1, .string a1_2] 29 (0, 0)) (by (with_reducible repeat (first | refine blk_drewN ?_ _ | refine blk_drew ?_ | refine blk_alloc ?_ _)); exact BK281.out) hb)
                 have n3_ := Aside0.mk (below_step (by repeat (first | (with_reducible first | exact HB.out | apply below_alloc | apply pw_below_drewN | apply below_drew1 | refine below_set ?_ GE280.out | refine below_set ?_ GE281.out) | exact HB.out)) hb)
                 clear BK280
                 clear BK281
                 clear HB
                 have HO289 := n0_
                 have BK280 := n1_
                 have BK281 := n2_
                 have HB := n3_
                 clear n0_ n1_ n2_ n3_
                 clear hb ho63
                 refine hK.out _ _ trivial (fun hHeld => ?_)
                 clear hK K
                 refine norm_ (a' := ?_) ?_ ?_
                 rotate_left
                 ·show Act.put _ (some 65) _ = _
                  simp only [Act.put, List.setIfInBounds_toArray, List.set_cons_zero, List.set_cons_succ, i64_w, i32_w]
                  rfl
                 refine one_ (i := 11) (N := some 66) #[true, true, true, true, true, true, true, true, true, true, true, true, false, true, true, true, true, false, false] rfl rfl (one_of HT_.out (by kernel_rfl)) (by decide) (fun K hK => ?_)
                 have hcv64 := own_string (P := Tryd.prog) Tryd.underlying39 Tryd.underlying5 Tryd.underlying9 (Kd.own_of_R HO289.out)
                 refine value_ (w1 := ?_) (v := ?_) (by rfl) rfl ?_ ?_
                 rotate_left 2
                 ·go_simp
                  constructor
                  ·rfl
                  ·rfl
                 clear hcv64
                 refine hK.out _ _ trivial (fun hHeld => ?_)
                 clear hK K
                 refine norm_ (a' := ?_) ?_ ?_
                 rotate_left
                 ·show Act.put _ (some 66) _ = _
                  simp only [Act.put, List.setIfInBounds_toArray, List.set_cons_zero, List.set_cons_succ, i64_w, i32_w]
                  rfl
                 refine pure_ (i := 12) (N := some 67) (v := ?_) (a' := ?_) #[true, true, true, true, true, true, true, true, true, true, true, true, true, true, true, true, true, false, false] rfl rfl (any_of HT_.out (by kernel_rfl)) (fun _ _ _ h => h) (Or.inl ⟨by rfl, ?_⟩) ?_ ?_
                 rotate_left
                 ·intro w'
                  go_simp
                  with_reducible rfl
                 rotate_left
                 ·simp only [Act.put, List.setIfInBounds_toArray, List.set_cons_zero, List.set_cons_succ, i64_w, i32_w]
                  rfl
                 refine pure_ (i := 17) (N := some 72) (v := ?_) (a' := ?_) #[true, true, true, true, true, true, true, true, true, true, true, true, true, true, true, true, true, true, false] rfl rfl (any_of HT_.out (by kernel_rfl)) (fun _ _ _ h => h) (Or.inl ⟨by rfl, ?_⟩) ?_ ?_
                 rotate_left
                 ·intro w'
                  go_simp
                  with_reducible rfl
                 rotate_left
                 ·simp only [Act.put, List.setIfInBounds_toArray, List.set_cons_zero, List.set_cons_succ, i64_w, i32_w]
                  rfl
                 refine pure_ (i := 18) (N := some 11) (v := ?_) (a' := ?_) #[true, true, true, true, true, true, true, true, true, true, true, true, true, true, true, true, true, true, true] rfl rfl (any_of HT_.out (by kernel_rfl)) (fun _ _ _ h => h) (Or.inl ⟨by rfl, ?_⟩) ?_ ?_
                 rotate_left
                 ·intro w'
                  go_simp
                  with_reducible rfl
                 rotate_left
                 ·simp only [Act.put, List.setIfInBounds_toArray, List.set_cons_zero, List.set_cons_succ, i64_w, i32_w]
                  rfl
                 refine done_ (done_of HT_.out (by kernel_rfl)) ?_
                 have hnb65 := NB280_281.out
                 have hnc65 := NB281_280.out
                 have hcz66_0 := cells_6 BK280.out
                 have hfz66_0 := fun j_ => blk_frozen BK280.out j_
                 try go_wp2_with (first | ((with_reducible refine gate_callee (f := 8) rfl ?_); refine goesL_ (some 79) rfl rfl Tryd.func8 (by kernel_rfl) rfl #[.agg #[.bool a0_0, .int .u64 a0_1, .int .u64 a0_2], .agg #[.bool a0_3, .int .u64 a0_4, .int .u64 a0_5], .string (((t283.extract 0 ((ji26) : Int).toNat) ++ (strOfNums y287)) ++ (t283.extract ((ji32) : Int).toNat t283.size))] rfl (by (try simp only [List.map_toArray, List.map_cons, List.map_nil]); first | done | (simp only [hji26, hji32]; rfl) | rfl | (simp only [List.length_drop, List.length_take]; rfl)) ?_; (with_reducible refine (udp_Decode.calls kj14 a0_0 a0_1 a0_2 a0_3 a0_4 a0_5 (((t283.extract 0 ((ji26) : Int).toNat) ++ (strOfNums y287)) ++ (t283.extract ((ji32) : Int).toNat t283.size)) t290 t291 t292 t293 _ ?side1 A36.out).mono ?_); (case side1 => exact laid_below HLD.out (by repeat (first | (with_reducible first | exact HB.out | apply below_alloc | apply pw_below_drewN | apply below_drew1 | refine below_set ?_ GE280.out | refine below_set ?_ GE281.out) | exact HB.out))); rintro e w67 ⟨rfl, hb⟩; refine ⟨_, rfl, ?_⟩; have n0_ := Aside0.mk (Kd.R_below (by (with_reducible repeat (first | apply Kd.R_alloc | apply Kd.R_drewN | apply Kd.R_drew)); exact HO289.out) hb); have n1_ := Aside0.mk (blk_below (g := gb280) (o := .cells #[.bool a0_0, .int .u64 a0_1, .int .u64 a0_2, .bool a0_3, .int .u64 a0_4, .int .u64 a0_5] 26 (0, 0)) (by (with_reducible repeat (first | refine blk_drewN ?_ _ | refine blk_drew ?_ | refine blk_alloc ?_ _)); exact BK280.out) hb); have n2_ := Aside0.mk (blk_below (g := gb281) (o := .cells #[.int .i64 a1_0, .int .i64 a1_1, .string a1_2] 29 (0, 0)) (by (with_reducible repeat (first | refine blk_drewN ?_ _ | refine blk_drew ?_ | refine blk_alloc ?_ _)); exact BK281.out) hb); have n3_ := Aside0.mk (below_step (by repeat (first | (with_reducible first | exact HB.out | apply below_alloc | apply pw_below_drewN | apply below_drew1 | refine below_set ?_ GE280.out | refine below_set ?_ GE281.out) | exact HB.out)) hb); clear HO289; clear BK280; clear BK281; clear HB; have HO289 := n0_; have BK280 := n1_; have BK281 := n2_; have HB := n3_; clear n0_ n1_ n2_ n3_; (try clear hb); (try clear hb2); (try clear hk); (try clear hi)) | ((with_reducible refine gate_dst (N := 12) rfl ?_); refine box_event ?hg (N := 12) ?hd (cs := #[.int .i64 0, .int .i64 0, .string (⟨#[]⟩ : ByteArray)]) (t := 29) ?hr ?_; (case hd => rfl); (case hg => rfl); (case hr => first | (go_simp; done) | (go_simp; rfl)); intro gb294 hg w68 hbox hb; have n0_ := Aside0.mk (Kd.R_below (by (with_reducible repeat (first | apply Kd.R_alloc | apply Kd.R_drewN | apply Kd.R_drew)); exact HO289.out) hb); have n1_ := Aside0.mk (blk_below (g := gb280) (o := .cells #[.bool a0_0, .int .u64 a0_1, .int .u64 a0_2, .bool a0_3, .int .u64 a0_4, .int .u64 a0_5] 26 (0, 0)) (by (with_reducible repeat (first | refine blk_drewN ?_ _ | refine blk_drew ?_ | refine blk_alloc ?_ _)); exact BK280.out) hb); have n2_ := Aside0.mk (blk_below (g := gb281) (o := .cells #[.int .i64 a1_0, .int .i64 a1_1, .string a1_2] 29 (0, 0)) (by (with_reducible repeat (first | refine blk_drewN ?_ _ | refine blk_drew ?_ | refine blk_alloc ?_ _)); exact BK281.out) hb); have n3_ := Aside0.mk (below_step (by repeat (first | (with_reducible first | exact HB.out | apply below_alloc | apply pw_below_drewN | apply below_drew1 | refine below_set ?_ GE280.out | refine below_set ?_ GE281.out) | exact HB.out)) hb); have n4_ := Aside0.mk (hbox); have n5_ := Aside0.mk ((by rw [hg]; exact (below_size (by repeat (first | (with_reducible first | exact HB.out | apply below_alloc | apply pw_below_drewN | apply below_drew1 | refine below_set ?_ GE280.out | refine below_set ?_ GE281.out) | exact HB.out))) : w.heap.size ≤ gb294)); have n6_ := Aside0.mk ((by rw [hg]; exact (below_size (by repeat (first | (with_reducible first | exact HB.out | apply below_alloc | apply pw_below_drewN | apply below_drew1 | refine below_set ?_ GE280.out | refine below_set ?_ GE281.out) | exact HB.out))) : w.heap.size ≤ gb294)); have n7_ := Aside0.mk ((by rw [hg]; exact Nat.ne_of_lt (blk_lt (g := gb280) (o := .cells #[.bool a0_0, .int .u64 a0_1, .int .u64 a0_2, .bool a0_3, .int .u64 a0_4, .int .u64 a0_5] 26 (0, 0)) (by (with_reducible repeat (first | refine blk_drewN ?_ _ | refine blk_drew ?_ | refine blk_alloc ?_ _)); exact BK280.out)) : gb280 ≠ gb294)); have n8_ := Aside0.mk ((by rw [hg]; exact Nat.ne_of_gt (blk_lt (g := gb280) (o := .cells #[.bool a0_0, .int .u64 a0_1, .int .u64 a0_2, .bool a0_3, .int .u64 a0_4, .int .u64 a0_5] 26 (0, 0)) (by (with_reducible repeat (first | refine blk_drewN ?_ _ | refine blk_drew ?_ | refine blk_alloc ?_ _)); exact BK280.out)) : gb294 ≠ gb280)); have n9_ := Aside0.mk ((by rw [hg]; exact Nat.ne_of_lt (blk_lt (g := gb281) (o := .cells #[.int .i64 a1_0, .int .i64 a1_1, .string a1_2] 29 (0, 0)) (by (with_reducible repeat (first | refine blk_drewN ?_ _ | refine blk_drew ?_ | refine blk_alloc ?_ _)); exact BK281.out)) : gb281 ≠ gb294)); have n10_ := Aside0.mk ((by rw [hg]; exact Nat.ne_of_gt (blk_lt (g := gb281) (o := .cells #[.int .i64 a1_0, .int .i64 a1_1, .string a1_2] 29 (0, 0)) (by (with_reducible repeat (first | refine blk_drewN ?_ _ | refine blk_drew ?_ | refine blk_alloc ?_ _)); exact BK281.out)) : gb294 ≠ gb281)); clear HO289; clear BK280; clear BK281; clear HB; have HO289 := n0_; have BK280 := n1_; have BK281 := n2_; have HB := n3_; have BK294 := n4_; have GW294 := n5_; have GE294 := n6_; have NB280_294 := n7_; have NB294_280 := n8_; have NB281_294 := n9_; have NB294_281 := n10_; clear n0_ n1_ n2_ n3_ n4_ n5_ n6_ n7_ n8_ n9_ n10_; clear hb hbox hg; have hnb69 := NB294_280.out; have hnc69 := NB280_294.out; have hnb70 := NB294_281.out; have hnc70 := NB281_294.out; have hcz71_0 := cells_3 BK294.out; have hfz71_0 := fun j_ => blk_frozen BK294.out j_) | (go_at_call 7; (with_reducible refine (intrusionlaw13_awake.calls kj14  t296 _ ?side1 A60.out).mono ?_); (case side1 => exact laid_below HLD.out (by repeat (first | (with_reducible first | exact HB.out | apply below_alloc | apply pw_below_drewN | apply below_drew1 | refine below_set ?_ GE280.out | refine below_set ?_ GE281.out | refine below_set ?_ GE294.out) | exact HB.out))); rintro e w72 ⟨rfl, hb⟩; have n0_ := Aside0.mk (Kd.R_below (by (with_reducible repeat (first | apply Kd.R_alloc | apply Kd.R_drewN | apply Kd.R_drew)); exact (Kd.R_mono (Kd.R_puts_0_3 gb294 (.int .i64 t290) (.int .i64 t291) (.string t292) (Kd.R_types HO289.out BK294.out (by decide)) (fun _ hk => hk.2)) (fun _ h_ => h_.1))) hb); have n1_ := Aside0.mk (blk_below (g := gb280) (o := .cells #[.bool a0_0, .int .u64 a0_1, .int .u64 a0_2, .bool a0_3, .int .u64 a0_4, .int .u64 a0_5] 26 (0, 0)) (by (with_reducible repeat (first | refine blk_drewN ?_ _ | refine blk_drew ?_ | refine blk_alloc ?_ _)); (iterate 3 (refine blk_far ?_ NB280_294.out _; (with_reducible repeat (first | refine blk_drewN ?_ _ | refine blk_drew ?_ | refine blk_alloc ?_ _)))); exact BK280.out) hb); have n2_ := Aside0.mk (blk_below (g := gb281) (o := .cells #[.int .i64 a1_0, .int .i64 a1_1, .string a1_2] 29 (0, 0)) (by (with_reducible repeat (first | refine blk_drewN ?_ _ | refine blk_drew ?_ | refine blk_alloc ?_ _)); (iterate 3 (refine blk_far ?_ NB281_294.out _; (with_reducible repeat (first | refine blk_drewN ?_ _ | refine blk_drew ?_ | refine blk_alloc ?_ _)))); exact BK281.out) hb); have n3_ := Aside0.mk (blk_below (g := gb294) (o := .cells #[.int .i64 t290, .int .i64 t291, .string t292] 29 (0, 0)) (by (with_reducible repeat (first | refine blk_drewN ?_ _ | refine blk_drew ?_ | refine blk_alloc ?_ _)); refine blk_all_3 (cs := #[.int .i64 0, .int .i64 0, .string (⟨#[]⟩ : ByteArray)]) ?_ rfl; (with_reducible repeat (first | refine blk_drewN ?_ _ | refine blk_drew ?_ | refine blk_alloc ?_ _)); exact BK294.out) hb); have n4_ := Aside0.mk (below_step (by repeat (first | (with_reducible first | exact HB.out | apply below_alloc | apply pw_below_drewN | apply below_drew1 | refine below_set ?_ GE280.out | refine below_set ?_ GE281.out | refine below_set ?_ GE294.out) | exact HB.out)) hb); clear HO289; clear BK280; clear BK281; clear BK294; clear HB; have HO289 := n0_; have BK280 := n1_; have BK281 := n2_; have BK294 := n3_; have HB := n4_; clear n0_ n1_ n2_ n3_ n4_; (try clear hb); (try clear hb2); (try clear hk); (try clear hi)))
                 go_ret
                 exact ⟨by first | rfl | (simp [errW_none, errW_some] <;> rfl) | (simp only [← hji26, ← hji32]; first | rfl | (simp [errW_none, errW_some] <;> rfl)) | (simp [*, errW_none, errW_some] <;> rfl), by repeat (first | (with_reducible first | exact HB.out | apply below_alloc | apply pw_below_drewN | apply below_drew1 | refine below_set ?_ GE280.out | refine below_set ?_ GE281.out | refine below_set ?_ GE294.out) | exact HB.out)⟩
                ·rw [if_neg c59] at H
                 exact absurd H (by simp)
              ·rw [if_neg c35] at H
               exact absurd H (by simp)
             ·rw [if_neg c34] at H
              exact absurd H (by simp)
            ·rw [if_neg c33] at H
             exact absurd H (by simp)
           ·rw [if_neg c31] at H
            exact absurd H (by simp)
          ·rw [if_neg c29] at H
           exact absurd H (by simp)
         ·rw [if_neg c28] at H
          exact absurd H (by simp)
        ·rw [if_neg c27] at H
         exact absurd H (by simp)
  ·rw [if_neg c12] at H
   have c12b0 : (t284 == 0) = false := beq_eq_false_iff_ne.mpr c12
   have c12b1 : (t284 != 0) = true := bne_iff_ne.mpr c12
   by_cases c73 : t283.toList = ([] : List UInt8)
   ·rw [if_pos c73] at H
    have c73b0 : (t283.toList == ([] : List UInt8)) = true := beq_iff_eq.mpr c73
    have c73b1 : (t283.toList != ([] : List UInt8)) = false := bne_eq_false_iff_eq.mpr c73
    clear c73
    replace H := Option.bind_eq_some_iff.mp H
    obtain ⟨t285, A740, H⟩ := H
    replace H : (some t285) = some r := H
    have A74 := Aside0.mk A740
    clear A740
    obtain rfl := Option.some.inj H
    go_enter Tryd.func6, Tryd.ntmps6
    go_wp2_with (first | ((with_reducible refine gate_dst (N := 3) rfl ?_); refine box_event ?hg (N := 3) ?hd (cs := #[.bool a0_0, .int .u64 a0_1, .int .u64 a0_2, .bool a0_3, .int .u64 a0_4, .int .u64 a0_5]) (t := 26) ?hr ?_; (case hd => rfl); (case hg => rfl); (case hr => first | (go_simp; done) | (go_simp; rfl)); intro gb280 hg w75 hbox hb; have n0_ := Aside0.mk (below_step (by repeat (first | (with_reducible first | exact HB.out | apply below_alloc | apply pw_below_drewN | apply below_drew1) | exact HB.out)) hb); have n1_ := Aside0.mk (hbox); have n2_ := Aside0.mk ((by rw [hg]; exact (below_size (by repeat (first | (with_reducible first | exact HB.out | apply below_alloc | apply pw_below_drewN | apply below_drew1) | exact HB.out))) : w.heap.size ≤ gb280)); have n3_ := Aside0.mk ((by rw [hg]; exact (below_size (by repeat (first | (with_reducible first | exact HB.out | apply below_alloc | apply pw_below_drewN | apply below_drew1) | exact HB.out))) : w.heap.size ≤ gb280)); clear HB; have HB := n0_; have BK280 := n1_; have GW280 := n2_; have GE280 := n3_; clear n0_ n1_ n2_ n3_; clear hb hbox hg) | ((with_reducible refine gate_dst (N := 4) rfl ?_); refine box_event ?hg (N := 4) ?hd (cs := #[.int .i64 a1_0, .int .i64 a1_1, .string a1_2]) (t := 29) ?hr ?_; (case hd => rfl); (case hg => rfl); (case hr => first | (go_simp; done) | (go_simp; rfl)); intro gb281 hg w76 hbox hb; have n0_ := Aside0.mk (blk_below (g := gb280) (o := .cells #[.bool a0_0, .int .u64 a0_1, .int .u64 a0_2, .bool a0_3, .int .u64 a0_4, .int .u64 a0_5] 26 (0, 0)) (by (with_reducible repeat (first | refine blk_drewN ?_ _ | refine blk_drew ?_ | refine blk_alloc ?_ _)); exact BK280.out) hb); have n1_ := Aside0.mk (below_step (by repeat (first | (with_reducible first | exact HB.out | apply below_alloc | apply pw_below_drewN | apply below_drew1 | refine below_set ?_ GE280.out) | exact HB.out)) hb); have n2_ := Aside0.mk (hbox); have n3_ := Aside0.mk ((by rw [hg]; exact (below_size (by repeat (first | (with_reducible first | exact HB.out | apply below_alloc | apply pw_below_drewN | apply below_drew1 | refine below_set ?_ GE280.out) | exact HB.out))) : w.heap.size ≤ gb281)); have n4_ := Aside0.mk ((by rw [hg]; exact (below_size (by repeat (first | (with_reducible first | exact HB.out | apply below_alloc | apply pw_below_drewN | apply below_drew1 | refine below_set ?_ GE280.out) | exact HB.out))) : w.heap.size ≤ gb281)); have n5_ := Aside0.mk ((by rw [hg]; exact Nat.ne_of_lt (blk_lt (g := gb280) (o := .cells #[.bool a0_0, .int .u64 a0_1, .int .u64 a0_2, .bool a0_3, .int .u64 a0_4, .int .u64 a0_5] 26 (0, 0)) (by (with_reducible repeat (first | refine blk_drewN ?_ _ | refine blk_drew ?_ | refine blk_alloc ?_ _)); exact BK280.out)) : gb280 ≠ gb281)); have n6_ := Aside0.mk ((by rw [hg]; exact Nat.ne_of_gt (blk_lt (g := gb280) (o := .cells #[.bool a0_0, .int .u64 a0_1, .int .u64 a0_2, .bool a0_3, .int .u64 a0_4, .int .u64 a0_5] 26 (0, 0)) (by (with_reducible repeat (first | refine blk_drewN ?_ _ | refine blk_drew ?_ | refine blk_alloc ?_ _)); exact BK280.out)) : gb281 ≠ gb280)); clear BK280; clear HB; have BK280 := n0_; have HB := n1_; have BK281 := n2_; have GW281 := n3_; have GE281 := n4_; have NB280_281 := n5_; have NB281_280 := n6_; clear n0_ n1_ n2_ n3_ n4_ n5_ n6_; clear hb hbox hg; have hnb77 := NB281_280.out; have hnc77 := NB280_281.out; have hcz78_0 := cells_3 BK281.out; have hfz78_0 := fun j_ => blk_frozen BK281.out j_; have hcz79_0 := cells_6 BK280.out; have hfz79_0 := fun j_ => blk_frozen BK280.out j_) | ((with_reducible refine gate_callee (f := 10) rfl ?_); refine goesL_ (some 25) rfl rfl Tryd.func10 (by kernel_rfl) rfl #[.agg #[.bool a0_0, .int .u64 a0_1, .int .u64 a0_2], .agg #[.bool a0_3, .int .u64 a0_4, .int .u64 a0_5], .agg #[.int .i64 a1_0, .int .i64 a1_1, .string a1_2]] rfl (by (try simp only [List.map_toArray, List.map_cons, List.map_nil]); first | done | rfl | (simp only [List.length_drop, List.length_take]; rfl)) ?_; (with_reducible refine (udp_Encode.calls k a0_0 a0_1 a0_2 a0_3 a0_4 a0_5 a1_0 a1_1 a1_2 t283 t284 _ ?side1 A11.out).mono ?_); (case side1 => exact laid_below HLD.out (by repeat (first | (with_reducible first | exact HB.out | apply below_alloc | apply pw_below_drewN | apply below_drew1 | refine below_set ?_ GE280.out | refine below_set ?_ GE281.out) | exact HB.out))); rintro e w80 ⟨rfl, hb⟩; refine ⟨_, rfl, ?_⟩; have n0_ := Aside0.mk (blk_below (g := gb280) (o := .cells #[.bool a0_0, .int .u64 a0_1, .int .u64 a0_2, .bool a0_3, .int .u64 a0_4, .int .u64 a0_5] 26 (0, 0)) (by (with_reducible repeat (first | refine blk_drewN ?_ _ | refine blk_drew ?_ | refine blk_alloc ?_ _)); exact BK280.out) hb); have n1_ := Aside0.mk (blk_below (g := gb281) (o := .cells #[.int .i64 a1_0, .int .i64 a1_1, .string a1_2] 29 (0, 0)) (by (with_reducible repeat (first | refine blk_drewN ?_ _ | refine blk_drew ?_ | refine blk_alloc ?_ _)); exact BK281.out) hb); have n2_ := Aside0.mk (below_step (by repeat (first | (with_reducible first | exact HB.out | apply below_alloc | apply pw_below_drewN | apply below_drew1 | refine below_set ?_ GE280.out | refine below_set ?_ GE281.out) | exact HB.out)) hb); clear BK280; clear BK281; clear HB; have BK280 := n0_; have BK281 := n1_; have HB := n2_; clear n0_ n1_ n2_; (try clear hb); (try clear hb2); (try clear hk); (try clear hi)) | (go_at_call 7; (with_reducible refine (intrusionlaw13_awake.calls k  t285 _ ?side1 A74.out).mono ?_); (case side1 => exact laid_below HLD.out (by repeat (first | (with_reducible first | exact HB.out | apply below_alloc | apply pw_below_drewN | apply below_drew1 | refine below_set ?_ GE280.out | refine below_set ?_ GE281.out) | exact HB.out))); rintro e w81 ⟨rfl, hb⟩; have n0_ := Aside0.mk (blk_below (g := gb280) (o := .cells #[.bool a0_0, .int .u64 a0_1, .int .u64 a0_2, .bool a0_3, .int .u64 a0_4, .int .u64 a0_5] 26 (0, 0)) (by (with_reducible repeat (first | refine blk_drewN ?_ _ | refine blk_drew ?_ | refine blk_alloc ?_ _)); exact BK280.out) hb); have n1_ := Aside0.mk (blk_below (g := gb281) (o := .cells #[.int .i64 a1_0, .int .i64 a1_1, .string a1_2] 29 (0, 0)) (by (with_reducible repeat (first | refine blk_drewN ?_ _ | refine blk_drew ?_ | refine blk_alloc ?_ _)); exact BK281.out) hb); have n2_ := Aside0.mk (below_step (by repeat (first | (with_reducible first | exact HB.out | apply below_alloc | apply pw_below_drewN | apply below_drew1 | refine below_set ?_ GE280.out | refine below_set ?_ GE281.out) | exact HB.out)) hb); clear BK280; clear BK281; clear HB; have BK280 := n0_; have BK281 := n1_; have HB := n2_; clear n0_ n1_ n2_; (try clear hb); (try clear hb2); (try clear hk); (try clear hi)))
    go_ret
    exact ⟨by first | rfl | (simp [errW_none, errW_some] <;> rfl) | (simp [*, errW_none, errW_some] <;> rfl), by repeat (first | (with_reducible first | exact HB.out | apply below_alloc | apply pw_below_drewN | apply below_drew1 | refine below_set ?_ GE280.out | refine below_set ?_ GE281.out) | exact HB.out)⟩
   ·rw [if_neg c73] at H
    exact absurd H (by simp)

end Go.Proofs.YtdjbmfjeplheiaaDoor.X
