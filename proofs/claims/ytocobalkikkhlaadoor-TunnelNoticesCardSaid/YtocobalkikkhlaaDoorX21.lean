/- Functions and their walks, printed by xprint.py. -/
import Derived.Test.YtocobalkikkhlaaDoorX0
import Derived.Test.YtocobalkikkhlaaDoorX5
import Derived.Test.YtocobalkikkhlaaDoorX11
namespace Go.Proofs.YtocobalkikkhlaaDoor.X
open Go.RowKit Go.Proofs.YtocobalkikkhlaaDoorW.PrintWords Go.Proofs.YtocobalkikkhlaaDoorW.PrintLast Go.Proofs.YtocobalkikkhlaaDoorW.PrintMore
attribute [local go_sem] max2_int min2_int max_two min_two max_three min_three max_four min_four   -- for this text's walks alone
set_option linter.unusedVariables false
set_option linter.unusedSimpArgs false

/-! ### intrusionlaw17_TunnelNotices: function 6 -/
def intrusionlaw17_TunnelNotices.j0 : Nat → ByteArray → Int → Int → Int → Bool → Bool → Int → Int → Bool → Int → Int → Int → Int → ByteArray → Option (Bool)
 | 0, _, _, _, _, _, _, _, _, _, _, _, _, _, _ => none
 | k + 1, x0, x1, x2, x9, x38, x384000, x384001, x384002, x384003, x384004, x384005, x384006, x384007, x384008 => if x38 = true then ((intrusionlaw17_awake.f k).bind fun t384 => (some t384)) else (if 0 ≤ x1 then (if x1 ≤ (x384008.size : Int) then (if x1 < (x384008.size : Int) then ((some (([Go.bits .xor .u8 (bt x384008 x1) x2] : List Int) : List Int)).bind fun y385 => (if (x384008.extract 0 (x1 : Int).toNat).size + (strOfNums y385).size ≤ 9223372036854775807 then (if 0 ≤ (wrap64 (x1 + 1)) then (if (wrap64 (x1 + 1)) ≤ (x384008.size : Int) then (if ((x384008.extract 0 (x1 : Int).toNat) ++ (strOfNums y385)).size + (x384008.extract ((wrap64 (x1 + 1)) : Int).toNat x384008.size).size ≤ 9223372036854775807 then ((tunnel_Inner.f k x384000 x384001 x384002 x384003 x384004 x384005 x384006 x384007 (((x384008.extract 0 (x1 : Int).toNat) ++ (strOfNums y385)) ++ (x384008.extract ((wrap64 (x1 + 1)) : Int).toNat x384008.size))).bind fun bt388 => (if x9 = 0 then (if bt388.2.2 = 0 then (if bt388.1 = 2 then (if bt388.2.1.toList = x0.toList then (none) else ((intrusionlaw17_awake.f k).bind fun t391 => (some t391))) else ((intrusionlaw17_awake.f k).bind fun t392 => (some t392))) else ((intrusionlaw17_awake.f k).bind fun t393 => (some t393))) else (none))) else (none)) else (none)) else (none)) else (none))) else (none)) else (none)) else (none))
def intrusionlaw17_TunnelNotices.f (k : Nat) (a0 : ByteArray) (a1 : Int) (a2 : Int) : Option (Bool) := (tunnel_WrapGre.f k false 0 167772161 false 0 167772161 2 a0 5 true).bind fun bt373 => (if (a0.size : Int) > 3000 then (intrusionlaw17_TunnelNotices.j0 k a0 a1 a2 bt373.2.2.2.2.2.2.2.2.2 true bt373.1 bt373.2.1 bt373.2.2.1 bt373.2.2.2.1 bt373.2.2.2.2.1 bt373.2.2.2.2.2.1 bt373.2.2.2.2.2.2.1 bt373.2.2.2.2.2.2.2.1 bt373.2.2.2.2.2.2.2.2.1) else (if a2 = 0 then (intrusionlaw17_TunnelNotices.j0 k a0 a1 a2 bt373.2.2.2.2.2.2.2.2.2 true bt373.1 bt373.2.1 bt373.2.2.1 bt373.2.2.2.1 bt373.2.2.2.2.1 bt373.2.2.2.2.2.1 bt373.2.2.2.2.2.2.1 bt373.2.2.2.2.2.2.2.1 bt373.2.2.2.2.2.2.2.2.1) else (if a1 < 1 then (intrusionlaw17_TunnelNotices.j0 k a0 a1 a2 bt373.2.2.2.2.2.2.2.2.2 true bt373.1 bt373.2.1 bt373.2.2.1 bt373.2.2.2.1 bt373.2.2.2.2.1 bt373.2.2.2.2.2.1 bt373.2.2.2.2.2.2.1 bt373.2.2.2.2.2.2.2.1 bt373.2.2.2.2.2.2.2.2.1) else (intrusionlaw17_TunnelNotices.j0 k a0 a1 a2 bt373.2.2.2.2.2.2.2.2.2 (decide (a1 ≥ (bt373.2.2.2.2.2.2.2.2.1.size : Int))) bt373.1 bt373.2.1 bt373.2.2.1 bt373.2.2.2.1 bt373.2.2.2.2.1 bt373.2.2.2.2.2.1 bt373.2.2.2.2.2.2.1 bt373.2.2.2.2.2.2.2.1 bt373.2.2.2.2.2.2.2.2.1))))
theorem intrusionlaw17_TunnelNotices.mono_l : ∀ k, (∀ y0 y1 y2 y3 y4 y5 y6 y7 y8 y9 y10 y11 y12 y13, LeO (intrusionlaw17_TunnelNotices.j0 k y0 y1 y2 y3 y4 y5 y6 y7 y8 y9 y10 y11 y12 y13) (intrusionlaw17_TunnelNotices.j0 (k + 1) y0 y1 y2 y3 y4 y5 y6 y7 y8 y9 y10 y11 y12 y13))
 | 0 => fun _ _ _ _ _ _ _ _ _ _ _ _ _ _ r h => by simp [intrusionlaw17_TunnelNotices.j0] at h
 | k + 1 => by
  have ih0 := intrusionlaw17_TunnelNotices.mono_l k
  intro y0 y1 y2 y3 y4 y5 y6 y7 y8 y9 y10 y11 y12 y13
  unfold intrusionlaw17_TunnelNotices.j0
  repeat' first | with_reducible first | apply ih0 | apply intrusionlaw17_awake.mono | apply tunnel_Inner.mono | apply tunnel_WrapGre.mono | apply LeO.refl | apply LeO.none | refine LeO.ite ?_ ?_ | refine LeO.bind ?_ (fun _ => ?_)
theorem intrusionlaw17_TunnelNotices.mono : ∀ a0 a1 a2 k, LeO (intrusionlaw17_TunnelNotices.f k a0 a1 a2) (intrusionlaw17_TunnelNotices.f (k + 1) a0 a1 a2) := by
 intro a0 a1 a2 k
 have ih0 := intrusionlaw17_TunnelNotices.mono_l k
 unfold intrusionlaw17_TunnelNotices.f
 repeat' first | with_reducible first | apply ih0 | apply intrusionlaw17_awake.mono | apply tunnel_Inner.mono | apply tunnel_WrapGre.mono | apply LeO.refl | apply LeO.none | refine LeO.ite ?_ ?_ | refine LeO.bind ?_ (fun _ => ?_)
def intrusionlaw17_TunnelNotices.T5 : Bool × List (List Nat × List Nat) := (true, [([], []), ([0], [0]), ([], []), ([1, 2], [1, 2]), ([], []), ([4], [4]), ([], []), ([5, 6], [5, 6]), ([], []), ([7, 8], [7, 8]), ([9], [9]), ([10], [10]), ([3, 11], [3, 11]), ([], []), ([13], [13]), ([], []), ([15], [15]), ([14, 16], [14, 16]), ([12, 17], [12, 17]), ([0, 1, 2, 3, 4, 5, 6, 7, 8, 9, 10, 11, 12, 13, 14, 15, 16, 17, 18], []), ([19, 18, 0, 1, 2, 3, 4, 5, 6, 7, 8, 9, 10, 11, 12, 13, 14, 15, 16, 17, 18], [18, 19])])
def intrusionlaw17_TunnelNotices.B5 : List Nat := [0, 1, 0, 7, 0, 16, 0, 112, 0, 496, 1008, 2032, 4095, 0, 8192, 0, 32768, 122880, 262143, 524287, 1048575]
theorem intrusionlaw17_TunnelNotices.tab5 : rtab .any (opsOf Tryd.f6 5) = intrusionlaw17_TunnelNotices.T5 := by kernel_rfl
theorem intrusionlaw17_TunnelNotices.bits5 : waitsOk intrusionlaw17_TunnelNotices.T5.2 intrusionlaw17_TunnelNotices.B5 = true := by kernel_rfl
set_option maxHeartbeats 8000000 in
set_option maxRecDepth 100000 in
theorem intrusionlaw17_TunnelNotices.calls (k : Nat) (a0 : ByteArray) (a1 : Int) (a2 : Int) (r : Bool) (w : World) (hLd : Laid w) (h : intrusionlaw17_TunnelNotices.f k a0 a1 a2 = some r) :
  Calls Tryd.prog 6 #[.string a0, .int .i64 a1, .int .u8 a2] w fun e w' => e = .returned (.bool r) ∧ Below w.heap.size w w' := by
 have hu24 := Tryd.underlying24
 have hu30 := Tryd.underlying30
 have HLD := As hLd
 clear hLd
 have HB := As (Below.refl w.heap.size w)
 have H : ((tunnel_WrapGre.f k false 0 167772161 false 0 167772161 2 a0 5 true).bind fun bt373 => (if (a0.size : Int) > 3000 then (intrusionlaw17_TunnelNotices.j0 k a0 a1 a2 bt373.2.2.2.2.2.2.2.2.2 true bt373.1 bt373.2.1 bt373.2.2.1 bt373.2.2.2.1 bt373.2.2.2.2.1 bt373.2.2.2.2.2.1 bt373.2.2.2.2.2.2.1 bt373.2.2.2.2.2.2.2.1 bt373.2.2.2.2.2.2.2.2.1) else (if a2 = 0 then (intrusionlaw17_TunnelNotices.j0 k a0 a1 a2 bt373.2.2.2.2.2.2.2.2.2 true bt373.1 bt373.2.1 bt373.2.2.1 bt373.2.2.2.1 bt373.2.2.2.2.1 bt373.2.2.2.2.2.1 bt373.2.2.2.2.2.2.1 bt373.2.2.2.2.2.2.2.1 bt373.2.2.2.2.2.2.2.2.1) else (if a1 < 1 then (intrusionlaw17_TunnelNotices.j0 k a0 a1 a2 bt373.2.2.2.2.2.2.2.2.2 true bt373.1 bt373.2.1 bt373.2.2.1 bt373.2.2.2.1 bt373.2.2.2.2.1 bt373.2.2.2.2.2.1 bt373.2.2.2.2.2.2.1 bt373.2.2.2.2.2.2.2.1 bt373.2.2.2.2.2.2.2.2.1) else (intrusionlaw17_TunnelNotices.j0 k a0 a1 a2 bt373.2.2.2.2.2.2.2.2.2 (decide (a1 ≥ (bt373.2.2.2.2.2.2.2.2.1.size : Int))) bt373.1 bt373.2.1 bt373.2.2.1 bt373.2.2.2.1 bt373.2.2.2.2.1 bt373.2.2.2.2.2.1 bt373.2.2.2.2.2.2.1 bt373.2.2.2.2.2.2.2.1 bt373.2.2.2.2.2.2.2.2.1))))) = some r := h
 clear h
 replace H := Option.bind_eq_some_iff.mp H
 obtain ⟨⟨t373, t374, t375, t376, t377, t378, t379, t380, t381, t382⟩, A40, H⟩ := H
 replace H : (if (a0.size : Int) > 3000 then (intrusionlaw17_TunnelNotices.j0 k a0 a1 a2 t382 true t373 t374 t375 t376 t377 t378 t379 t380 t381) else (if a2 = 0 then (intrusionlaw17_TunnelNotices.j0 k a0 a1 a2 t382 true t373 t374 t375 t376 t377 t378 t379 t380 t381) else (if a1 < 1 then (intrusionlaw17_TunnelNotices.j0 k a0 a1 a2 t382 true t373 t374 t375 t376 t377 t378 t379 t380 t381) else (intrusionlaw17_TunnelNotices.j0 k a0 a1 a2 t382 (decide (a1 ≥ (t381.size : Int))) t373 t374 t375 t376 t377 t378 t379 t380 t381)))) = some r := H
 have A4 := As A40
 clear A40
 have HC5 := As H
 clear H
 go_enter Tryd.func6, Tryd.ntmps6
 go_upto_region 3 with (first | ((with_reducible refine gate_dst (N := 7) rfl ?_); (try (refine gate_guard (by rfl) ?_; dsimp only)); refine box_event rfl (N := 7) rfl (cs := #[.bool false, .int .u64 0, .int .u64 0]) (t := 24) kG ?_; intro gb372 hg w6 hbox hb; have BK372 := As (hbox); have GW372 := As ((by rw [hg]; exact (below_size (kB HB.out)) : w.heap.size ≤ gb372)); have GE372 := As ((by rw [hg]; exact (below_size (kB HB.out)) : w.heap.size ≤ gb372)); replace HB := As (below_step (kB HB.out) hb); clear hb hbox hg; have hcz7_0 := cells_3 BK372.out; have hfz7_0 := fun j_ => blk_frozen BK372.out j_) | ((with_reducible refine gate_callee (f := 12) rfl ?_); refine goesL_ (some 18) rfl rfl Tryd.func12 (by kernel_rfl) rfl #[.agg #[.bool false, .int .u64 0, .int .u64 167772161], .agg #[.bool false, .int .u64 0, .int .u64 167772161], .int .i64 2, .string a0, .int .u32 5, .bool true] rfl kA ?_; (with_reducible refine (tunnel_WrapGre.calls k false 0 167772161 false 0 167772161 2 a0 5 true t373 t374 t375 t376 t377 t378 t379 t380 t381 t382 _ A4.out).mono ?_); rintro e w8 ⟨rfl, hb⟩; refine ⟨_, rfl, ?_⟩; replace BK372 := As (blk_below (g := gb372) (o := .cells #[.bool false, .int .u64 0, .int .u64 167772161] 24 (0, 0)) (by refine kb ?_; exact blk_all_3 (kb BK372.out) (by rfl)) hb); replace HB := As (below_step (kB1 HB.out GE372.out) hb); (try clear hb)) | ((with_reducible refine gate_dst (N := 8) rfl ?_); (try (refine gate_guard (by rfl) ?_; dsimp only)); refine box_event rfl (N := 8) rfl (cs := #[.bool false, .int .u64 0, .int .u64 0, .bool false, .int .u64 0, .int .u64 0, .int .i64 0, .int .i64 0, .string (⟨#[]⟩ : ByteArray)]) (t := 30) kG ?_; intro gb383 hg w9 hbox hb; have BK383 := As (hbox); have GW383 := As ((by rw [hg]; exact (below_size (kB1 HB.out GE372.out)) : w.heap.size ≤ gb383)); have GE383 := As ((by rw [hg]; exact (below_size (kB1 HB.out GE372.out)) : w.heap.size ≤ gb383)); replace HB := As (below_step (kB1 HB.out GE372.out) hb); have NB372_383 := As ((by rw [hg]; exact Nat.ne_of_lt (blk_lt (kb BK372.out)) : gb372 ≠ gb383)); have NB383_372 := As ((by rw [hg]; exact Nat.ne_of_gt (blk_lt (kb BK372.out)) : gb383 ≠ gb372)); replace BK372 := As (blk_below (kb BK372.out) hb); clear hb hbox hg) | ((with_reducible refine gate_store (t := 30) (p := 8) rfl ?_); refine store_rowev_9 gb383 (.bool t373) (.int .u64 t374) (.int .u64 t375) (.bool t376) (.int .u64 t377) (.int .u64 t378) (.int .i64 t379) (.int .i64 t380) (.string t381) rfl (t := 30) (p := 8) (v := _) rfl rfl rfl rfl (t' := 30) (kb BK383.out) (by rfl) (by kernel_rfl) (by rfl) ?_))
 (try simp only [Act.put, sA, sZ, sS])
 go_cut [38] (fun v38 wc => ∃ (kq : Nat) (x38_4 : Bool), v38 = .bool x38_4 ∧ Aside0 (intrusionlaw17_TunnelNotices.j0 kq a0 a1 a2 t382 x38_4 t373 t374 t375 t376 t377 t378 t379 t380 t381 = some r) ∧ Aside0 (kq ≤ k) ∧ Aside0 (wc.heap[gb372]? = some (.cells #[.bool false, .int .u64 0, .int .u64 167772161] 24 (0, 0))) ∧ Aside0 (wc.heap[gb383]? = some (.cells #[.bool t373, .int .u64 t374, .int .u64 t375, .bool t376, .int .u64 t377, .int .u64 t378, .int .i64 t379, .int .i64 t380, .string t381] 30 (0, 0))) ∧ Aside0 (Below w.heap.size w wc))
 case first =>
  have H := HC5.out
  clear HC5
  by_cases c10 : (a0.size : Int) > 3000
  ·rw [if_pos c10] at H
   have c10b0 : decide (3000 < (a0.size : Int)) = true := decide_eq_true c10
   have c10b1 : decide (3000 < a0.size) = true := decide_eq_true (by omega)
   clear c10
   (first | rw [c10b0] | (simp only [i64_w, i32_w]; rw [c10b0]) | skip)
   have H' := As H
   clear H
   go_wp2
   go_meet
   case rel => exact ⟨_, (true), kS, H', ⟨by first | omega | exact Nat.le_refl _⟩, ⟨by refine kb ?_; (iterate 9 (refine blk_far ?_ NB372_383.out _; refine kb ?_)); exact BK372.out⟩, ⟨by refine kb ?_; exact blk_all_9 (kb BK383.out) (by rfl)⟩, ⟨kB2 HB.out GE372.out GE383.out⟩⟩
  rw [if_neg c10] at H
  have c10b0 : decide (3000 < (a0.size : Int)) = false := decide_eq_false c10
  have c10b1 : decide (3000 < a0.size) = false := decide_eq_false (by omega)
  clear c10
  (first | rw [c10b0] | (simp only [i64_w, i32_w]; rw [c10b0]) | skip)
  by_cases c11 : a2 = 0
  ·rw [if_pos c11] at H
   have c11b0 : (a2 == 0) = true := beq_iff_eq.mpr c11
   have c11b1 : (a2 != 0) = false := bne_eq_false_iff_eq.mpr c11
   clear c11
   have H' := As H
   clear H
   go_wp2
   go_meet
   case rel => exact ⟨_, (true), kS, H', ⟨by first | omega | exact Nat.le_refl _⟩, ⟨by refine kb ?_; (iterate 9 (refine blk_far ?_ NB372_383.out _; refine kb ?_)); exact BK372.out⟩, ⟨by refine kb ?_; exact blk_all_9 (kb BK383.out) (by rfl)⟩, ⟨kB2 HB.out GE372.out GE383.out⟩⟩
  rw [if_neg c11] at H
  have c11b0 : (a2 == 0) = false := beq_eq_false_iff_ne.mpr c11
  have c11b1 : (a2 != 0) = true := bne_iff_ne.mpr c11
  by_cases c12 : a1 < 1
  ·rw [if_pos c12] at H
   have c12b0 : decide (a1 < 1) = true := decide_eq_true c12
   clear c12
   have H' := As H
   clear H
   go_wp2
   go_meet
   case rel => exact ⟨_, (true), kS, H', ⟨by first | omega | exact Nat.le_refl _⟩, ⟨by refine kb ?_; (iterate 9 (refine blk_far ?_ NB372_383.out _; refine kb ?_)); exact BK372.out⟩, ⟨by refine kb ?_; exact blk_all_9 (kb BK383.out) (by rfl)⟩, ⟨kB2 HB.out GE372.out GE383.out⟩⟩
  rw [if_neg c12] at H
  have c12b0 : decide (a1 < 1) = false := decide_eq_false c12
  clear c12
  have H' := As H
  clear H
  have hnb13 := NB383_372.out
  have hnc13 := NB372_383.out
  have hcz14_0 := cells_9 BK383.out
  have hfz14_0 := fun j_ => blk_frozen BK383.out j_
  go_wp2
  go_meet
  case rel => exact ⟨_, (decide (a1 ≥ (t381.size : Int))), kS, H', ⟨by first | omega | exact Nat.le_refl _⟩, ⟨by refine kb ?_; (iterate 9 (refine blk_far ?_ NB372_383.out _; refine kb ?_)); exact BK372.out⟩, ⟨by refine kb ?_; exact blk_all_9 (kb BK383.out) (by rfl)⟩, ⟨kB2 HB.out GE372.out GE383.out⟩⟩
 clear HC5
 try clear hcz7_0
 try clear hfz7_0
 obtain ⟨kq, x38_4, rfl, HA, HJ4, BK372, BK383, HB⟩ := hcut
 cases kq with
 | zero => exact absurd HA.out (by simp [intrusionlaw17_TunnelNotices.j0])
 | succ kj4 =>
  have H := HA.out
  clear HA
  simp only [intrusionlaw17_TunnelNotices.j0] at H
  by_cases c15 : x38_4 = true
  ·subst c15
   have H1 : ((intrusionlaw17_awake.f kj4).bind fun t384 => (some t384)) = some r := by rw [if_pos rfl] at H; exact H
   clear H
   have H := H1
   clear H1
   replace H := Option.bind_eq_some_iff.mp H
   obtain ⟨t384, A160, H⟩ := H
   replace H : (some t384) = some r := H
   have A16 := As A160
   clear A160
   obtain rfl := Option.some.inj H
   go_wp2_with (first | ((with_reducible refine gate_callee (f := 11) rfl ?_); refine goesL_ (some 39) rfl rfl Tryd.func11 (by kernel_rfl) rfl #[] rfl kA ?_; (with_reducible refine (intrusionlaw17_awake.calls kj4  t384 _ ?side1 A16.out).mono ?_); (case side1 => exact laid_below HLD.out (kB2 HB.out GE372.out GE383.out)); rintro e w17 ⟨rfl, hb⟩; refine ⟨_, rfl, ?_⟩; replace BK372 := As (blk_below (kb BK372.out) hb); replace BK383 := As (blk_below (kb BK383.out) hb); replace HB := As (below_step (kB2 HB.out GE372.out GE383.out) hb); (try clear hb)))
   go_ret
   exact ⟨kE, by exact kB2 HB.out GE372.out GE383.out⟩
  replace c15 := Bool.eq_false_iff.mpr c15
  subst c15
  have H1 : (if 0 ≤ a1 then (if a1 ≤ (t381.size : Int) then (if a1 < (t381.size : Int) then ((some (([Go.bits .xor .u8 (bt t381 a1) a2] : List Int) : List Int)).bind fun y385 => (if (t381.extract 0 (a1 : Int).toNat).size + (strOfNums y385).size ≤ 9223372036854775807 then (if 0 ≤ (wrap64 (a1 + 1)) then (if (wrap64 (a1 + 1)) ≤ (t381.size : Int) then (if ((t381.extract 0 (a1 : Int).toNat) ++ (strOfNums y385)).size + (t381.extract ((wrap64 (a1 + 1)) : Int).toNat t381.size).size ≤ 9223372036854775807 then ((tunnel_Inner.f kj4 t373 t374 t375 t376 t377 t378 t379 t380 (((t381.extract 0 (a1 : Int).toNat) ++ (strOfNums y385)) ++ (t381.extract ((wrap64 (a1 + 1)) : Int).toNat t381.size))).bind fun bt388 => (if t382 = 0 then (if bt388.2.2 = 0 then (if bt388.1 = 2 then (if bt388.2.1.toList = a0.toList then (none) else ((intrusionlaw17_awake.f kj4).bind fun t391 => (some t391))) else ((intrusionlaw17_awake.f kj4).bind fun t392 => (some t392))) else ((intrusionlaw17_awake.f kj4).bind fun t393 => (some t393))) else (none))) else (none)) else (none)) else (none)) else (none))) else (none)) else (none)) else (none)) = some r := by rw [if_neg (show ¬ (false = true) by decide)] at H; exact H
  clear H
  have H := H1
  clear H1
  by_cases c18 : 0 ≤ a1
  ·rw [if_pos c18] at H
   have c18b0 := eq_true c18
   have c18b1 : decide (0 ≤ a1) = true := decide_eq_true c18
   clear c18
   by_cases c19 : a1 ≤ (t381.size : Int)
   ·rw [if_pos c19] at H
    have c19b0 := eq_true c19
    have c19b1 : decide (a1 ≤ (t381.size : Int)) = true := decide_eq_true c19
    clear c19
    by_cases c20 : a1 < (t381.size : Int)
    ·rw [if_pos c20] at H
     have c20b0 : decide (a1 < (t381.size : Int)) = true := decide_eq_true c20
     clear c20
     obtain ⟨y385, hy385⟩ : ∃ y_ : List Int, y_ = (([Go.bits .xor .u8 (bt t381 a1) a2] : List Int)) := ⟨_, rfl⟩
     replace H : (if (t381.extract 0 (a1 : Int).toNat).size + (strOfNums y385).size ≤ 9223372036854775807 then (if 0 ≤ (wrap64 (a1 + 1)) then (if (wrap64 (a1 + 1)) ≤ (t381.size : Int) then (if ((t381.extract 0 (a1 : Int).toNat) ++ (strOfNums y385)).size + (t381.extract ((wrap64 (a1 + 1)) : Int).toNat t381.size).size ≤ 9223372036854775807 then ((tunnel_Inner.f kj4 t373 t374 t375 t376 t377 t378 t379 t380 (((t381.extract 0 (a1 : Int).toNat) ++ (strOfNums y385)) ++ (t381.extract ((wrap64 (a1 + 1)) : Int).toNat t381.size))).bind fun bt388 => (if t382 = 0 then (if bt388.2.2 = 0 then (if bt388.1 = 2 then (if bt388.2.1.toList = a0.toList then (none) else ((intrusionlaw17_awake.f kj4).bind fun t391 => (some t391))) else ((intrusionlaw17_awake.f kj4).bind fun t392 => (some t392))) else ((intrusionlaw17_awake.f kj4).bind fun t393 => (some t393))) else (none))) else (none)) else (none)) else (none)) else (none)) = some r := by first | (rw [hy385]; with_reducible exact H) | (have H2_ := (Option.bind_some _ _).symm.trans H; rw [hy385]; with_reducible exact H2_) | (have H2_ := (Option.bind_some _ _).symm.trans H; with_reducible exact H2_) | with_reducible exact H | (rw [hy385]; exact H) | exact H
     have Ny385 := As hy385
     clear hy385
     by_cases c22 : (t381.extract 0 (a1 : Int).toNat).size + (strOfNums y385).size ≤ 9223372036854775807
     ·rw [if_pos c22] at H
      have c22b0 := eq_true c22
      have c22b1 : decide ((t381.extract 0 (a1 : Int).toNat).size + (strOfNums y385).size ≤ 9223372036854775807) = true := decide_eq_true c22
      (try (have c22s0 : (9223372036854775807 < ((a1 : Int).toNat) + (strOfNums y385).size) = False := by have h_ := c22; simp only [ByteArray.size_append, ByteArray.size_extract] at h_; exact eq_false (by first | omega | (have h2_0 : ((a1 : Int) : Int) ≤ (t381.size : Int) := of_decide_eq_true (by first | (with_reducible assumption) | assumption); omega))))
      (try (have c22s1 : (((a1 : Int).toNat) + (strOfNums y385).size ≤ 9223372036854775807) = True := by have h_ := c22; simp only [ByteArray.size_append, Int.natCast_add, Int.toNat_natCast] at h_; first | exact eq_true h_ | exact eq_true (by omega)))
      (try (have c22s2 : decide (((a1 : Int).toNat) + (strOfNums y385).size ≤ 9223372036854775807) = true := by have h_ := c22; first | (simp only [ByteArray.size_append, Int.toNat_natCast] at h_; first | exact beq_iff_eq.mpr h_ | exact beq_eq_false_iff_ne.mpr h_ | exact bne_iff_ne.mpr h_ | exact bne_eq_false_iff_eq.mpr h_ | (rw [beq_iff_eq.mpr h_]; rfl) | (rw [beq_eq_false_iff_ne.mpr h_]; rfl)) | (simp only [ByteArray.size_append, Int.natCast_add, Int.toNat_natCast] at h_ ⊢; first | exact h_ | simpa using h_ | simp [h_] | omega) | (simp only [ByteArray.size_append] at h_; simp at h_ ⊢; omega) | (simp only [ByteArray.size_append, Int.natCast_add, Int.toNat_natCast] at h_; simpa using h_)))
      try have c22b2 : (9223372036854775807 < (t381.extract 0 (a1 : Int).toNat).size + (strOfNums y385).size) = False := eq_false (Nat.not_lt.2 c22)
      obtain ⟨ji23, hji23⟩ : ∃ j_ : Int, (wrap64 (a1 + 1)) = j_ := ⟨_, rfl⟩
      replace H : (if 0 ≤ (ji23) then (if (ji23) ≤ (t381.size : Int) then (if ((t381.extract 0 (a1 : Int).toNat) ++ (strOfNums y385)).size + (t381.extract ((ji23) : Int).toNat t381.size).size ≤ 9223372036854775807 then ((tunnel_Inner.f kj4 t373 t374 t375 t376 t377 t378 t379 t380 (((t381.extract 0 (a1 : Int).toNat) ++ (strOfNums y385)) ++ (t381.extract ((ji23) : Int).toNat t381.size))).bind fun bt388 => (if t382 = 0 then (if bt388.2.2 = 0 then (if bt388.1 = 2 then (if bt388.2.1.toList = a0.toList then (none) else ((intrusionlaw17_awake.f kj4).bind fun t391 => (some t391))) else ((intrusionlaw17_awake.f kj4).bind fun t392 => (some t392))) else ((intrusionlaw17_awake.f kj4).bind fun t393 => (some t393))) else (none))) else (none)) else (none)) else (none)) = some r := by first | (rw [hji23] at H; exact H) | (simp only [hji23] at H ⊢; exact H)
      have hji23w : (IntKind.i64.wrap (a1 + 1)) = ji23 := (i64_w _).trans hji23
      by_cases c24 : 0 ≤ (ji23)
      ·rw [if_pos c24] at H
       have c24b0 := eq_true c24
       have c24b1 : decide (0 ≤ (ji23)) = true := decide_eq_true c24
       clear c24
       by_cases c25 : (ji23) ≤ (t381.size : Int)
       ·rw [if_pos c25] at H
        have c25b0 := eq_true c25
        have c25b1 : decide ((ji23) ≤ (t381.size : Int)) = true := decide_eq_true c25
        clear c25
        by_cases c26 : ((t381.extract 0 (a1 : Int).toNat) ++ (strOfNums y385)).size + (t381.extract ((ji23) : Int).toNat t381.size).size ≤ 9223372036854775807
        ·rw [if_pos c26] at H
         have c26b0 := eq_true c26
         have c26b1 : decide (((t381.extract 0 (a1 : Int).toNat) ++ (strOfNums y385)).size + (t381.extract ((ji23) : Int).toNat t381.size).size ≤ 9223372036854775807) = true := decide_eq_true c26
         (try (have c26s0 : (9223372036854775807 < ((a1 : Int).toNat + (strOfNums y385).size) + ((t381.size - ((ji23) : Int).toNat))) = False := by have h_ := c26; simp only [ByteArray.size_append, ByteArray.size_extract] at h_; exact eq_false (by first | omega | (have h2_0 : ((a1 : Int) : Int) ≤ (t381.size : Int) := of_decide_eq_true (by first | (with_reducible assumption) | assumption); omega))))
         (try (have c26s1 : (((a1 : Int).toNat + (strOfNums y385).size) + ((t381.size - ((ji23) : Int).toNat)) ≤ 9223372036854775807) = True := by have h_ := c26; simp only [ByteArray.size_append, Int.natCast_add, Int.toNat_natCast] at h_; first | exact eq_true h_ | exact eq_true (by omega)))
         (try (have c26s2 : decide (((a1 : Int).toNat + (strOfNums y385).size) + ((t381.size - ((ji23) : Int).toNat)) ≤ 9223372036854775807) = true := by have h_ := c26; first | (simp only [ByteArray.size_append, Int.toNat_natCast] at h_; first | exact beq_iff_eq.mpr h_ | exact beq_eq_false_iff_ne.mpr h_ | exact bne_iff_ne.mpr h_ | exact bne_eq_false_iff_eq.mpr h_ | (rw [beq_iff_eq.mpr h_]; rfl) | (rw [beq_eq_false_iff_ne.mpr h_]; rfl)) | (simp only [ByteArray.size_append, Int.natCast_add, Int.toNat_natCast] at h_ ⊢; first | exact h_ | simpa using h_ | simp [h_] | omega) | (simp only [ByteArray.size_append] at h_; simp at h_ ⊢; omega) | (simp only [ByteArray.size_append, Int.natCast_add, Int.toNat_natCast] at h_; simpa using h_)))
         try have c26b2 : (9223372036854775807 < ((t381.extract 0 (a1 : Int).toNat) ++ (strOfNums y385)).size + (t381.extract ((ji23) : Int).toNat t381.size).size) = False := eq_false (Nat.not_lt.2 c26)
         replace H := Option.bind_eq_some_iff.mp H
         obtain ⟨⟨t388, t389, t390⟩, A270, H⟩ := H
         replace H : (if t382 = 0 then (if t390 = 0 then (if t388 = 2 then (if t389.toList = a0.toList then (none) else ((intrusionlaw17_awake.f kj4).bind fun t391 => (some t391))) else ((intrusionlaw17_awake.f kj4).bind fun t392 => (some t392))) else ((intrusionlaw17_awake.f kj4).bind fun t393 => (some t393))) else (none)) = some r := H
         have A27 := As A270
         clear A270
         by_cases c28 : t382 = 0
         ·rw [if_pos c28] at H
          have c28b0 : (t382 == 0) = true := beq_iff_eq.mpr c28
          have c28b1 : (t382 != 0) = false := bne_eq_false_iff_eq.mpr c28
          clear c28
          by_cases c29 : t390 = 0
          ·rw [if_pos c29] at H
           have c29b0 : (t390 == 0) = true := beq_iff_eq.mpr c29
           have c29b1 : (t390 != 0) = false := bne_eq_false_iff_eq.mpr c29
           clear c29
           by_cases c30 : t388 = 2
           ·rw [if_pos c30] at H
            have c30b0 : (t388 == 2) = true := beq_iff_eq.mpr c30
            have c30b1 : (t388 != 2) = false := bne_eq_false_iff_eq.mpr c30
            clear c30
            by_cases c31 : t389.toList = a0.toList
            ·rw [if_pos c31] at H
             exact absurd H (by simp)
            rw [if_neg c31] at H
            have c31b0 : (t389.toList == a0.toList) = false := beq_eq_false_iff_ne.mpr c31
            have c31b1 : (t389.toList != a0.toList) = true := bne_iff_ne.mpr c31
            replace H := Option.bind_eq_some_iff.mp H
            obtain ⟨t391, A320, H⟩ := H
            replace H : (some t391) = some r := H
            have A32 := As A320
            clear A320
            obtain rfl := Option.some.inj H
            try go_wp2
            replace BK372 := As (blk_drew BK372.out)
            replace BK383 := As (blk_drew BK383.out)
            replace HB := As (below_drew1 HB.out)
            have p21 : 0 ≤ (a1 : Int) := of_decide_eq_true (by first | (with_reducible assumption) | assumption)
            have q21 : a1 < (t381.size : Int) := of_decide_eq_true (by first | (with_reducible assumption) | assumption)
            have hx21 := bt_at t381 a1
            replace p21 := eq_true p21
            replace q21 := eq_true q21
            refine start_ (n := 21) (S := fun w' => w'.cell? ⟨gb383, 0, none⟩ = some (.bool t373) ∧ w'.cell? ⟨gb383, 1, none⟩ = some (.int .u64 t374) ∧ w'.cell? ⟨gb383, 2, none⟩ = some (.int .u64 t375) ∧ w'.cell? ⟨gb383, 3, none⟩ = some (.bool t376) ∧ w'.cell? ⟨gb383, 4, none⟩ = some (.int .u64 t377) ∧ w'.cell? ⟨gb383, 5, none⟩ = some (.int .u64 t378) ∧ w'.cell? ⟨gb383, 6, none⟩ = some (.int .i64 t379) ∧ w'.cell? ⟨gb383, 7, none⟩ = some (.int .i64 t380) ∧ w'.cell? ⟨gb383, 8, none⟩ = some (.string t381)) (ds := [20]) #[O, O, O, O, O, O, O, O, O, O, O, O, O, O, O, O, O, O, O, O, O] (by kernel_rfl) rfl rfl ⟨kC BK383.out 0, kC BK383.out 1, kC BK383.out 2, kC BK383.out 3, kC BK383.out 4, kC BK383.out 5, kC BK383.out 6, kC BK383.out 7, kC BK383.out 8⟩ (fun hHeld => ?_); refine with_tabW intrusionlaw17_TunnelNotices.tab5 intrusionlaw17_TunnelNotices.bits5 (fun HT_ HW_ => ?_)
            generalize wc.drew = w33 at BK372 BK383 HB hHeld ⊢
            refine kP 0 40 #[I, O, O, O, O, O, O, O, O, O, O, O, O, O, O, O, O, O, O, O, O] ?_ (any_of HT_.out (by kernel_rfl))
            refine kP 2 42 #[I, O, I, O, O, O, O, O, O, O, O, O, O, O, O, O, O, O, O, O, O] ?_ (any_of HT_.out (by kernel_rfl))
            refine kP 4 44 #[I, O, I, O, I, O, O, O, O, O, O, O, O, O, O, O, O, O, O, O, O] ?_ (any_of HT_.out (by kernel_rfl))
            refine kP 6 46 #[I, O, I, O, I, O, I, O, O, O, O, O, O, O, O, O, O, O, O, O, O] ?_ (any_of HT_.out (by kernel_rfl))
            refine kP 8 48 #[I, O, I, O, I, O, I, O, I, O, O, O, O, O, O, O, O, O, O, O, O] ?_ (any_of HT_.out (by kernel_rfl))
            refine kP 13 53 #[I, O, I, O, I, O, I, O, I, O, O, O, O, I, O, O, O, O, O, O, O] ?_ (any_of HT_.out (by kernel_rfl))
            refine kP 15 55 #[I, O, I, O, I, O, I, O, I, O, O, O, O, I, O, I, O, O, O, O, O] ?_ (any_of HT_.out (by kernel_rfl))
            refine kP 16 56 #[I, O, I, O, I, O, I, O, I, O, O, O, O, I, O, I, I, O, O, O, O] ?_ (any_of HT_.out (by kernel_rfl))
            refine take_ (i := 1) (N := some 41) (v := ?_) (a' := ?_) #[I, I, I, O, I, O, I, O, I, O, O, O, O, I, O, I, I, O, O, O, O] rfl rfl (take_ofW HT_.out HW_.out (by kernel_rfl)) (fun _ _ _ h => h) (Or.inl ⟨by rfl, ?_⟩) hHeld ?_ ?_
            rotate_left
            ·rintro w' ⟨s0, s1, s2, s3, s4, s5, s6, s7, s8⟩
             go_simp
             with_reducible rfl
            rotate_left
            ·simp only [Act.put, sA, sZ, sS, i64_w, i32_w]
             rfl
            refine kP 3 43 #[I, I, I, I, I, O, I, O, I, O, O, O, O, I, O, I, I, O, O, O, O] ?_ (any_of HT_.out (by kernel_rfl))
            refine take_ (i := 5) (N := some 45) (v := ?_) (a' := ?_) #[I, I, I, I, I, I, I, O, I, O, O, O, O, I, O, I, I, O, O, O, O] rfl rfl (take_ofW HT_.out HW_.out (by kernel_rfl)) (fun _ _ _ h => h) (Or.inl ⟨by rfl, ?_⟩) hHeld ?_ ?_
            rotate_left
            ·rintro w' ⟨s0, s1, s2, s3, s4, s5, s6, s7, s8⟩
             go_simp
             with_reducible rfl
            rotate_left
            ·simp only [Act.put, sA, sZ, sS, i64_w, i32_w]
             rfl
            refine take_ (i := 7) (N := some 47) (v := ?_) (a' := ?_) #[I, I, I, I, I, I, I, I, I, O, O, O, O, I, O, I, I, O, O, O, O] rfl rfl (take_ofW HT_.out HW_.out (by kernel_rfl)) (fun _ _ _ h => h) (Or.inl ⟨by rfl, ?_⟩) hHeld ?_ ?_
            rotate_left
            ·rintro w' ⟨s0, s1, s2, s3, s4, s5, s6, s7, s8⟩
             go_simp
             with_reducible rfl
            rotate_left
            ·simp only [Act.put, sA, sZ, sS, i64_w, i32_w]
             rfl
            refine kP 9 49 #[I, I, I, I, I, I, I, I, I, I, O, O, O, I, O, I, I, O, O, O, O] ?_ (any_of HT_.out (by kernel_rfl))
            refine take_ (i := 14) (N := some 54) (v := ?_) (a' := ?_) #[I, I, I, I, I, I, I, I, I, I, O, O, O, I, I, I, I, O, O, O, O] rfl rfl (take_ofW HT_.out HW_.out (by kernel_rfl)) (fun _ _ _ h => h) (Or.inl ⟨by rfl, ?_⟩) hHeld ?_ ?_
            rotate_left
            ·rintro w' ⟨s0, s1, s2, s3, s4, s5, s6, s7, s8⟩
             go_simp
             with_reducible rfl
            rotate_left
            ·simp only [Act.put, sA, sZ, sS, i64_w, i32_w]
             rfl
            refine kP 17 57 #[I, I, I, I, I, I, I, I, I, I, O, O, O, I, I, I, I, I, O, O, O] ?_ (any_of HT_.out (by kernel_rfl))
            refine one_ (i := 10) (N := some 50) #[I, I, I, I, I, I, I, I, I, I, I, O, O, I, I, I, I, I, O, O, O] rfl rfl (one_of HT_.out (by kernel_rfl)) (by decide) (fun K hK => ?_)
            refine Kd.R_lit_step (Kd.int .u8) _ 5 rfl (N := 50) rfl (xs := ([Go.bits .xor .u8 (bt t381 a1) a2] : List Int)) (inner := [.int .u8 (Go.bits .xor .u8 (bt t381 a1) a2)]) (ok := fun _ => True) (okp := fun _ => True) kG ?hp (fun _ hk => hk) trivial (Below.refl _ _) (Nat.le_refl _) (by simp) ?_; (case hp => exact (Reps.one (show Kd.M (Kd.int .u8) _ _ _ (Go.bits .xor .u8 (bt t381 a1) a2) [.int .u8 (Go.bits .xor .u8 (bt t381 a1) a2)] from rfl) (Reps.none _ _)))
            intro v386 w34 ho35 hb hg_ hnew_
            clear hg_ hnew_
            (first | rw [← Ny385.out] at ho35 | (simp only [Int.reduceToNat] at ho35; rw [← Ny385.out] at ho35))
            have HO387 := As (Kd.R_lower ho35 (below_size (kB2 HB.out GE372.out GE383.out)))
            replace BK372 := As (blk_below (kb BK372.out) hb)
            replace BK383 := As (blk_below (kb BK383.out) hb)
            replace HB := As (below_step (kB2 HB.out GE372.out GE383.out) hb)
            clear hb ho35
            refine hK.out _ _ ⟨kC BK383.out 0, kC BK383.out 1, kC BK383.out 2, kC BK383.out 3, kC BK383.out 4, kC BK383.out 5, kC BK383.out 6, kC BK383.out 7, kC BK383.out 8⟩ (fun hHeld => ?_)
            clear hK K
            refine norm_ (a' := ?_) ?_ ?_
            rotate_left
            ·show Act.put _ (some 50) _ = _
             simp only [Act.put, sA, sZ, sS, i64_w, i32_w]
             rfl
            refine one_ (i := 11) (N := some 51) #[I, I, I, I, I, I, I, I, I, I, I, I, O, I, I, I, I, I, O, O, O] rfl rfl (one_of HT_.out (by kernel_rfl)) (by decide) (fun K hK => ?_)
            have hcv36 := own_string (P := Tryd.prog) Tryd.underlying47 Tryd.underlying5 Tryd.underlying9 (Kd.own_of_R HO387.out)
            refine value_ (w1 := ?_) (v := ?_) (by rfl) rfl ?_ ?_
            rotate_left 2
            ·go_simp
             constructor
             ·rfl
             rfl
            clear hcv36
            refine hK.out _ _ ⟨kC BK383.out 0, kC BK383.out 1, kC BK383.out 2, kC BK383.out 3, kC BK383.out 4, kC BK383.out 5, kC BK383.out 6, kC BK383.out 7, kC BK383.out 8⟩ (fun hHeld => ?_)
            clear hK K
            refine norm_ (a' := ?_) ?_ ?_
            rotate_left
            ·show Act.put _ (some 51) _ = _
             simp only [Act.put, sA, sZ, sS, i64_w, i32_w]
             rfl
            refine kP 12 52 #[I, I, I, I, I, I, I, I, I, I, I, I, I, I, I, I, I, I, O, O, O] ?_ (any_of HT_.out (by kernel_rfl))
            refine kP 18 58 #[I, I, I, I, I, I, I, I, I, I, I, I, I, I, I, I, I, I, I, O, O] ?_ (any_of HT_.out (by kernel_rfl))
            refine kP 19 59 #[I, I, I, I, I, I, I, I, I, I, I, I, I, I, I, I, I, I, I, I, O] ?_ (any_of HT_.out (by kernel_rfl))
            refine last_ (i := 20) (N := none) #[I, I, I, I, I, I, I, I, I, I, I, I, I, I, I, I, I, I, I, I, I] rfl rfl (one_of HT_.out (by kernel_rfl)) (by decide) (fun K hK => ?_)
            have hs37 : w34.cell? ⟨gb383, 8, none⟩ = some (.string t381) := (blk_cell BK383.out 8).trans rfl
            have hfs37 := blk_frozen BK383.out 8
            have hns37_0 := NB372_383.out
            have hms37_0 := NB383_372.out
            refine skip_ (w1 := ?_) (by rfl) rfl ?_ ?_
            rotate_left
            ·go_simp
             rfl
            refine hK.out _ _ ?_
            clear hK K
            refine done_ (done_of HT_.out (by kernel_rfl)) ?_
            try go_wp2_with (first | ((with_reducible refine gate_dst (N := 61) rfl ?_); (try (refine gate_guard (by rfl) ?_; dsimp only)); refine wpList_load_row ?hgd 30 _ rfl gb383 rfl 30 #[.bool t373, .int .u64 t374, .int .u64 t375, .bool t376, .int .u64 t377, .int .u64 t378, .int .i64 t379, .int .i64 t380, .string (((t381.extract 0 (a1 : Int).toNat) ++ (strOfNums y385)) ++ (t381.extract ((ji23) : Int).toNat t381.size))] (0, 0) _ (by refine kb ?_; refine blk_put (cs := #[.bool t373, .int .u64 t374, .int .u64 t375, .bool t376, .int .u64 t377, .int .u64 t378, .int .i64 t379, .int .i64 t380, .string t381]) ?_ 8 _ rfl; exact kb BK383.out) Tryd.underlying30 rfl (by kernel_rfl) ?_; (case hgd => rfl)) | ((with_reducible refine gate_callee (f := 18) rfl ?_); refine goesL_ (some 62) rfl rfl Tryd.func18 (by kernel_rfl) rfl #[.agg #[.bool t373, .int .u64 t374, .int .u64 t375, .bool t376, .int .u64 t377, .int .u64 t378, .int .i64 t379, .int .i64 t380, .string (((t381.extract 0 (a1 : Int).toNat) ++ (strOfNums y385)) ++ (t381.extract ((ji23) : Int).toNat t381.size))]] rfl (by (try simp only [List.map_toArray, List.map_cons, List.map_nil]); first | done | (simp only [hji23]; rfl) | rfl | (simp only [List.length_drop, List.length_take]; rfl)) ?_; (with_reducible refine (tunnel_Inner.calls kj4 t373 t374 t375 t376 t377 t378 t379 t380 (((t381.extract 0 (a1 : Int).toNat) ++ (strOfNums y385)) ++ (t381.extract ((ji23) : Int).toNat t381.size)) t388 t389 t390 _ ?side1 A27.out).mono ?_); (case side1 => exact laid_below HLD.out (kB2 HB.out GE372.out GE383.out)); rintro e w38 ⟨rfl, hb⟩; refine ⟨_, rfl, ?_⟩; replace HO387 := As (Kd.R_below (by refine kR ?_; exact (Kd.R_mono (Kd.R_far (p := ⟨gb383, 8, none⟩) (Kd.R_types HO387.out BK383.out (by decide)) (fun _ hk => hk.2) (.string (((t381.extract 0 (a1 : Int).toNat) ++ (strOfNums y385)) ++ (t381.extract ((ji23) : Int).toNat t381.size)))) (fun _ h_ => h_.1))) hb); replace BK372 := As (blk_below (g := gb372) (o := .cells #[.bool false, .int .u64 0, .int .u64 167772161] 24 (0, 0)) (by refine kb ?_; refine blk_far ?_ NB372_383.out _; exact kb BK372.out) hb); replace BK383 := As (blk_below (g := gb383) (o := .cells #[.bool t373, .int .u64 t374, .int .u64 t375, .bool t376, .int .u64 t377, .int .u64 t378, .int .i64 t379, .int .i64 t380, .string (((t381.extract 0 (a1 : Int).toNat) ++ (strOfNums y385)) ++ (t381.extract ((ji23) : Int).toNat t381.size))] 30 (0, 0)) (by refine kb ?_; refine blk_put (cs := #[.bool t373, .int .u64 t374, .int .u64 t375, .bool t376, .int .u64 t377, .int .u64 t378, .int .i64 t379, .int .i64 t380, .string t381]) ?_ 8 _ rfl; exact kb BK383.out) hb); replace HB := As (below_step (kB2 HB.out GE372.out GE383.out) hb); (try clear hb); (try clear hk)) | (go_at_call 11; (with_reducible refine (intrusionlaw17_awake.calls kj4  t391 _ ?side1 A32.out).mono ?_); (case side1 => exact laid_below HLD.out (kB2 HB.out GE372.out GE383.out)); rintro e w39 ⟨rfl, hb⟩; replace HO387 := As (Kd.R_below (kR HO387.out) hb); replace BK372 := As (blk_below (kb BK372.out) hb); replace BK383 := As (blk_below (kb BK383.out) hb); replace HB := As (below_step (kB2 HB.out GE372.out GE383.out) hb); (try clear hb); (try clear hk)))
            go_ret
            exact ⟨by first | rfl | (simp [errW_none, errW_some] <;> rfl) | (simp only [← hji23]; first | rfl | (simp [errW_none, errW_some] <;> rfl)) | (simp [*, errW_none, errW_some] <;> rfl), by exact kB2 HB.out GE372.out GE383.out⟩
           rw [if_neg c30] at H
           have c30b0 : (t388 == 2) = false := beq_eq_false_iff_ne.mpr c30
           have c30b1 : (t388 != 2) = true := bne_iff_ne.mpr c30
           replace H := Option.bind_eq_some_iff.mp H
           obtain ⟨t392, A400, H⟩ := H
           replace H : (some t392) = some r := H
           have A40 := As A400
           clear A400
           obtain rfl := Option.some.inj H
           try go_wp2
           replace BK372 := As (blk_drew BK372.out)
           replace BK383 := As (blk_drew BK383.out)
           replace HB := As (below_drew1 HB.out)
           have p21 : 0 ≤ (a1 : Int) := of_decide_eq_true (by first | (with_reducible assumption) | assumption)
           have q21 : a1 < (t381.size : Int) := of_decide_eq_true (by first | (with_reducible assumption) | assumption)
           have hx21 := bt_at t381 a1
           replace p21 := eq_true p21
           replace q21 := eq_true q21
           refine start_ (n := 21) (S := fun w' => w'.cell? ⟨gb383, 0, none⟩ = some (.bool t373) ∧ w'.cell? ⟨gb383, 1, none⟩ = some (.int .u64 t374) ∧ w'.cell? ⟨gb383, 2, none⟩ = some (.int .u64 t375) ∧ w'.cell? ⟨gb383, 3, none⟩ = some (.bool t376) ∧ w'.cell? ⟨gb383, 4, none⟩ = some (.int .u64 t377) ∧ w'.cell? ⟨gb383, 5, none⟩ = some (.int .u64 t378) ∧ w'.cell? ⟨gb383, 6, none⟩ = some (.int .i64 t379) ∧ w'.cell? ⟨gb383, 7, none⟩ = some (.int .i64 t380) ∧ w'.cell? ⟨gb383, 8, none⟩ = some (.string t381)) (ds := [20]) #[O, O, O, O, O, O, O, O, O, O, O, O, O, O, O, O, O, O, O, O, O] (by kernel_rfl) rfl rfl ⟨kC BK383.out 0, kC BK383.out 1, kC BK383.out 2, kC BK383.out 3, kC BK383.out 4, kC BK383.out 5, kC BK383.out 6, kC BK383.out 7, kC BK383.out 8⟩ (fun hHeld => ?_); refine with_tabW intrusionlaw17_TunnelNotices.tab5 intrusionlaw17_TunnelNotices.bits5 (fun HT_ HW_ => ?_)
           generalize wc.drew = w41 at BK372 BK383 HB hHeld ⊢
           refine kP 0 40 #[I, O, O, O, O, O, O, O, O, O, O, O, O, O, O, O, O, O, O, O, O] ?_ (any_of HT_.out (by kernel_rfl))
           refine kP 2 42 #[I, O, I, O, O, O, O, O, O, O, O, O, O, O, O, O, O, O, O, O, O] ?_ (any_of HT_.out (by kernel_rfl))
           refine kP 4 44 #[I, O, I, O, I, O, O, O, O, O, O, O, O, O, O, O, O, O, O, O, O] ?_ (any_of HT_.out (by kernel_rfl))
           refine kP 6 46 #[I, O, I, O, I, O, I, O, O, O, O, O, O, O, O, O, O, O, O, O, O] ?_ (any_of HT_.out (by kernel_rfl))
           refine kP 8 48 #[I, O, I, O, I, O, I, O, I, O, O, O, O, O, O, O, O, O, O, O, O] ?_ (any_of HT_.out (by kernel_rfl))
           refine kP 13 53 #[I, O, I, O, I, O, I, O, I, O, O, O, O, I, O, O, O, O, O, O, O] ?_ (any_of HT_.out (by kernel_rfl))
           refine kP 15 55 #[I, O, I, O, I, O, I, O, I, O, O, O, O, I, O, I, O, O, O, O, O] ?_ (any_of HT_.out (by kernel_rfl))
           refine kP 16 56 #[I, O, I, O, I, O, I, O, I, O, O, O, O, I, O, I, I, O, O, O, O] ?_ (any_of HT_.out (by kernel_rfl))
           refine take_ (i := 1) (N := some 41) (v := ?_) (a' := ?_) #[I, I, I, O, I, O, I, O, I, O, O, O, O, I, O, I, I, O, O, O, O] rfl rfl (take_ofW HT_.out HW_.out (by kernel_rfl)) (fun _ _ _ h => h) (Or.inl ⟨by rfl, ?_⟩) hHeld ?_ ?_
           rotate_left
           ·rintro w' ⟨s0, s1, s2, s3, s4, s5, s6, s7, s8⟩
            go_simp
            with_reducible rfl
           rotate_left
           ·simp only [Act.put, sA, sZ, sS, i64_w, i32_w]
            rfl
           refine kP 3 43 #[I, I, I, I, I, O, I, O, I, O, O, O, O, I, O, I, I, O, O, O, O] ?_ (any_of HT_.out (by kernel_rfl))
           refine take_ (i := 5) (N := some 45) (v := ?_) (a' := ?_) #[I, I, I, I, I, I, I, O, I, O, O, O, O, I, O, I, I, O, O, O, O] rfl rfl (take_ofW HT_.out HW_.out (by kernel_rfl)) (fun _ _ _ h => h) (Or.inl ⟨by rfl, ?_⟩) hHeld ?_ ?_
           rotate_left
           ·rintro w' ⟨s0, s1, s2, s3, s4, s5, s6, s7, s8⟩
            go_simp
            with_reducible rfl
           rotate_left
           ·simp only [Act.put, sA, sZ, sS, i64_w, i32_w]
            rfl
           refine take_ (i := 7) (N := some 47) (v := ?_) (a' := ?_) #[I, I, I, I, I, I, I, I, I, O, O, O, O, I, O, I, I, O, O, O, O] rfl rfl (take_ofW HT_.out HW_.out (by kernel_rfl)) (fun _ _ _ h => h) (Or.inl ⟨by rfl, ?_⟩) hHeld ?_ ?_
           rotate_left
           ·rintro w' ⟨s0, s1, s2, s3, s4, s5, s6, s7, s8⟩
            go_simp
            with_reducible rfl
           rotate_left
           ·simp only [Act.put, sA, sZ, sS, i64_w, i32_w]
            rfl
           refine kP 9 49 #[I, I, I, I, I, I, I, I, I, I, O, O, O, I, O, I, I, O, O, O, O] ?_ (any_of HT_.out (by kernel_rfl))
           refine take_ (i := 14) (N := some 54) (v := ?_) (a' := ?_) #[I, I, I, I, I, I, I, I, I, I, O, O, O, I, I, I, I, O, O, O, O] rfl rfl (take_ofW HT_.out HW_.out (by kernel_rfl)) (fun _ _ _ h => h) (Or.inl ⟨by rfl, ?_⟩) hHeld ?_ ?_
           rotate_left
           ·rintro w' ⟨s0, s1, s2, s3, s4, s5, s6, s7, s8⟩
            go_simp
            with_reducible rfl
           rotate_left
           ·simp only [Act.put, sA, sZ, sS, i64_w, i32_w]
            rfl
           refine kP 17 57 #[I, I, I, I, I, I, I, I, I, I, O, O, O, I, I, I, I, I, O, O, O] ?_ (any_of HT_.out (by kernel_rfl))
           refine one_ (i := 10) (N := some 50) #[I, I, I, I, I, I, I, I, I, I, I, O, O, I, I, I, I, I, O, O, O] rfl rfl (one_of HT_.out (by kernel_rfl)) (by decide) (fun K hK => ?_)
           refine Kd.R_lit_step (Kd.int .u8) _ 5 rfl (N := 50) rfl (xs := ([Go.bits .xor .u8 (bt t381 a1) a2] : List Int)) (inner := [.int .u8 (Go.bits .xor .u8 (bt t381 a1) a2)]) (ok := fun _ => True) (okp := fun _ => True) kG ?hp (fun _ hk => hk) trivial (Below.refl _ _) (Nat.le_refl _) (by simp) ?_; (case hp => exact (Reps.one (show Kd.M (Kd.int .u8) _ _ _ (Go.bits .xor .u8 (bt t381 a1) a2) [.int .u8 (Go.bits .xor .u8 (bt t381 a1) a2)] from rfl) (Reps.none _ _)))
           intro v386 w42 ho43 hb hg_ hnew_
           clear hg_ hnew_
           (first | rw [← Ny385.out] at ho43 | (simp only [Int.reduceToNat] at ho43; rw [← Ny385.out] at ho43))
           have HO387 := As (Kd.R_lower ho43 (below_size (kB2 HB.out GE372.out GE383.out)))
           replace BK372 := As (blk_below (kb BK372.out) hb)
           replace BK383 := As (blk_below (kb BK383.out) hb)
           replace HB := As (below_step (kB2 HB.out GE372.out GE383.out) hb)
           clear hb ho43
           refine hK.out _ _ ⟨kC BK383.out 0, kC BK383.out 1, kC BK383.out 2, kC BK383.out 3, kC BK383.out 4, kC BK383.out 5, kC BK383.out 6, kC BK383.out 7, kC BK383.out 8⟩ (fun hHeld => ?_)
           clear hK K
           refine norm_ (a' := ?_) ?_ ?_
           rotate_left
           ·show Act.put _ (some 50) _ = _
            simp only [Act.put, sA, sZ, sS, i64_w, i32_w]
            rfl
           refine one_ (i := 11) (N := some 51) #[I, I, I, I, I, I, I, I, I, I, I, I, O, I, I, I, I, I, O, O, O] rfl rfl (one_of HT_.out (by kernel_rfl)) (by decide) (fun K hK => ?_)
           have hcv44 := own_string (P := Tryd.prog) Tryd.underlying47 Tryd.underlying5 Tryd.underlying9 (Kd.own_of_R HO387.out)
           refine value_ (w1 := ?_) (v := ?_) (by rfl) rfl ?_ ?_
           rotate_left 2
           ·go_simp
            constructor
            ·rfl
            rfl
           clear hcv44
           refine hK.out _ _ ⟨kC BK383.out 0, kC BK383.out 1, kC BK383.out 2, kC BK383.out 3, kC BK383.out 4, kC BK383.out 5, kC BK383.out 6, kC BK383.out 7, kC BK383.out 8⟩ (fun hHeld => ?_)
           clear hK K
           refine norm_ (a' := ?_) ?_ ?_
           rotate_left
           ·show Act.put _ (some 51) _ = _
            simp only [Act.put, sA, sZ, sS, i64_w, i32_w]
            rfl
           refine kP 12 52 #[I, I, I, I, I, I, I, I, I, I, I, I, I, I, I, I, I, I, O, O, O] ?_ (any_of HT_.out (by kernel_rfl))
           refine kP 18 58 #[I, I, I, I, I, I, I, I, I, I, I, I, I, I, I, I, I, I, I, O, O] ?_ (any_of HT_.out (by kernel_rfl))
           refine kP 19 59 #[I, I, I, I, I, I, I, I, I, I, I, I, I, I, I, I, I, I, I, I, O] ?_ (any_of HT_.out (by kernel_rfl))
           refine last_ (i := 20) (N := none) #[I, I, I, I, I, I, I, I, I, I, I, I, I, I, I, I, I, I, I, I, I] rfl rfl (one_of HT_.out (by kernel_rfl)) (by decide) (fun K hK => ?_)
           have hs45 : w42.cell? ⟨gb383, 8, none⟩ = some (.string t381) := (blk_cell BK383.out 8).trans rfl
           have hfs45 := blk_frozen BK383.out 8
           have hns45_0 := NB372_383.out
           have hms45_0 := NB383_372.out
           refine skip_ (w1 := ?_) (by rfl) rfl ?_ ?_
           rotate_left
           ·go_simp
            rfl
           refine hK.out _ _ ?_
           clear hK K
           refine done_ (done_of HT_.out (by kernel_rfl)) ?_
           try go_wp2_with (first | ((with_reducible refine gate_dst (N := 61) rfl ?_); (try (refine gate_guard (by rfl) ?_; dsimp only)); refine wpList_load_row ?hgd 30 _ rfl gb383 rfl 30 #[.bool t373, .int .u64 t374, .int .u64 t375, .bool t376, .int .u64 t377, .int .u64 t378, .int .i64 t379, .int .i64 t380, .string (((t381.extract 0 (a1 : Int).toNat) ++ (strOfNums y385)) ++ (t381.extract ((ji23) : Int).toNat t381.size))] (0, 0) _ (by refine kb ?_; refine blk_put (cs := #[.bool t373, .int .u64 t374, .int .u64 t375, .bool t376, .int .u64 t377, .int .u64 t378, .int .i64 t379, .int .i64 t380, .string t381]) ?_ 8 _ rfl; exact kb BK383.out) Tryd.underlying30 rfl (by kernel_rfl) ?_; (case hgd => rfl)) | ((with_reducible refine gate_callee (f := 18) rfl ?_); refine goesL_ (some 62) rfl rfl Tryd.func18 (by kernel_rfl) rfl #[.agg #[.bool t373, .int .u64 t374, .int .u64 t375, .bool t376, .int .u64 t377, .int .u64 t378, .int .i64 t379, .int .i64 t380, .string (((t381.extract 0 (a1 : Int).toNat) ++ (strOfNums y385)) ++ (t381.extract ((ji23) : Int).toNat t381.size))]] rfl (by (try simp only [List.map_toArray, List.map_cons, List.map_nil]); first | done | (simp only [hji23]; rfl) | rfl | (simp only [List.length_drop, List.length_take]; rfl)) ?_; (with_reducible refine (tunnel_Inner.calls kj4 t373 t374 t375 t376 t377 t378 t379 t380 (((t381.extract 0 (a1 : Int).toNat) ++ (strOfNums y385)) ++ (t381.extract ((ji23) : Int).toNat t381.size)) t388 t389 t390 _ ?side1 A27.out).mono ?_); (case side1 => exact laid_below HLD.out (kB2 HB.out GE372.out GE383.out)); rintro e w46 ⟨rfl, hb⟩; refine ⟨_, rfl, ?_⟩; replace HO387 := As (Kd.R_below (by refine kR ?_; exact (Kd.R_mono (Kd.R_far (p := ⟨gb383, 8, none⟩) (Kd.R_types HO387.out BK383.out (by decide)) (fun _ hk => hk.2) (.string (((t381.extract 0 (a1 : Int).toNat) ++ (strOfNums y385)) ++ (t381.extract ((ji23) : Int).toNat t381.size)))) (fun _ h_ => h_.1))) hb); replace BK372 := As (blk_below (g := gb372) (o := .cells #[.bool false, .int .u64 0, .int .u64 167772161] 24 (0, 0)) (by refine kb ?_; refine blk_far ?_ NB372_383.out _; exact kb BK372.out) hb); replace BK383 := As (blk_below (g := gb383) (o := .cells #[.bool t373, .int .u64 t374, .int .u64 t375, .bool t376, .int .u64 t377, .int .u64 t378, .int .i64 t379, .int .i64 t380, .string (((t381.extract 0 (a1 : Int).toNat) ++ (strOfNums y385)) ++ (t381.extract ((ji23) : Int).toNat t381.size))] 30 (0, 0)) (by refine kb ?_; refine blk_put (cs := #[.bool t373, .int .u64 t374, .int .u64 t375, .bool t376, .int .u64 t377, .int .u64 t378, .int .i64 t379, .int .i64 t380, .string t381]) ?_ 8 _ rfl; exact kb BK383.out) hb); replace HB := As (below_step (kB2 HB.out GE372.out GE383.out) hb); (try clear hb); (try clear hk)) | (go_at_call 11; (with_reducible refine (intrusionlaw17_awake.calls kj4  t392 _ ?side1 A40.out).mono ?_); (case side1 => exact laid_below HLD.out (kB2 HB.out GE372.out GE383.out)); rintro e w47 ⟨rfl, hb⟩; replace HO387 := As (Kd.R_below (kR HO387.out) hb); replace BK372 := As (blk_below (kb BK372.out) hb); replace BK383 := As (blk_below (kb BK383.out) hb); replace HB := As (below_step (kB2 HB.out GE372.out GE383.out) hb); (try clear hb); (try clear hk)))
           go_ret
           exact ⟨by first | rfl | (simp [errW_none, errW_some] <;> rfl) | (simp only [← hji23]; first | rfl | (simp [errW_none, errW_some] <;> rfl)) | (simp [*, errW_none, errW_some] <;> rfl), by exact kB2 HB.out GE372.out GE383.out⟩
          rw [if_neg c29] at H
          have c29b0 : (t390 == 0) = false := beq_eq_false_iff_ne.mpr c29
          have c29b1 : (t390 != 0) = true := bne_iff_ne.mpr c29
          replace H := Option.bind_eq_some_iff.mp H
          obtain ⟨t393, A480, H⟩ := H
          replace H : (some t393) = some r := H
          have A48 := As A480
          clear A480
          obtain rfl := Option.some.inj H
          try go_wp2
          replace BK372 := As (blk_drew BK372.out)
          replace BK383 := As (blk_drew BK383.out)
          replace HB := As (below_drew1 HB.out)
          have p21 : 0 ≤ (a1 : Int) := of_decide_eq_true (by first | (with_reducible assumption) | assumption)
          have q21 : a1 < (t381.size : Int) := of_decide_eq_true (by first | (with_reducible assumption) | assumption)
          have hx21 := bt_at t381 a1
          replace p21 := eq_true p21
          replace q21 := eq_true q21
          refine start_ (n := 21) (S := fun w' => w'.cell? ⟨gb383, 0, none⟩ = some (.bool t373) ∧ w'.cell? ⟨gb383, 1, none⟩ = some (.int .u64 t374) ∧ w'.cell? ⟨gb383, 2, none⟩ = some (.int .u64 t375) ∧ w'.cell? ⟨gb383, 3, none⟩ = some (.bool t376) ∧ w'.cell? ⟨gb383, 4, none⟩ = some (.int .u64 t377) ∧ w'.cell? ⟨gb383, 5, none⟩ = some (.int .u64 t378) ∧ w'.cell? ⟨gb383, 6, none⟩ = some (.int .i64 t379) ∧ w'.cell? ⟨gb383, 7, none⟩ = some (.int .i64 t380) ∧ w'.cell? ⟨gb383, 8, none⟩ = some (.string t381)) (ds := [20]) #[O, O, O, O, O, O, O, O, O, O, O, O, O, O, O, O, O, O, O, O, O] (by kernel_rfl) rfl rfl ⟨kC BK383.out 0, kC BK383.out 1, kC BK383.out 2, kC BK383.out 3, kC BK383.out 4, kC BK383.out 5, kC BK383.out 6, kC BK383.out 7, kC BK383.out 8⟩ (fun hHeld => ?_); refine with_tabW intrusionlaw17_TunnelNotices.tab5 intrusionlaw17_TunnelNotices.bits5 (fun HT_ HW_ => ?_)
          generalize wc.drew = w49 at BK372 BK383 HB hHeld ⊢
          refine kP 0 40 #[I, O, O, O, O, O, O, O, O, O, O, O, O, O, O, O, O, O, O, O, O] ?_ (any_of HT_.out (by kernel_rfl))
          refine kP 2 42 #[I, O, I, O, O, O, O, O, O, O, O, O, O, O, O, O, O, O, O, O, O] ?_ (any_of HT_.out (by kernel_rfl))
          refine kP 4 44 #[I, O, I, O, I, O, O, O, O, O, O, O, O, O, O, O, O, O, O, O, O] ?_ (any_of HT_.out (by kernel_rfl))
          refine kP 6 46 #[I, O, I, O, I, O, I, O, O, O, O, O, O, O, O, O, O, O, O, O, O] ?_ (any_of HT_.out (by kernel_rfl))
          refine kP 8 48 #[I, O, I, O, I, O, I, O, I, O, O, O, O, O, O, O, O, O, O, O, O] ?_ (any_of HT_.out (by kernel_rfl))
          refine kP 13 53 #[I, O, I, O, I, O, I, O, I, O, O, O, O, I, O, O, O, O, O, O, O] ?_ (any_of HT_.out (by kernel_rfl))
          refine kP 15 55 #[I, O, I, O, I, O, I, O, I, O, O, O, O, I, O, I, O, O, O, O, O] ?_ (any_of HT_.out (by kernel_rfl))
          refine kP 16 56 #[I, O, I, O, I, O, I, O, I, O, O, O, O, I, O, I, I, O, O, O, O] ?_ (any_of HT_.out (by kernel_rfl))
          refine take_ (i := 1) (N := some 41) (v := ?_) (a' := ?_) #[I, I, I, O, I, O, I, O, I, O, O, O, O, I, O, I, I, O, O, O, O] rfl rfl (take_ofW HT_.out HW_.out (by kernel_rfl)) (fun _ _ _ h => h) (Or.inl ⟨by rfl, ?_⟩) hHeld ?_ ?_
          rotate_left
          ·rintro w' ⟨s0, s1, s2, s3, s4, s5, s6, s7, s8⟩
           go_simp
           with_reducible rfl
          rotate_left
          ·simp only [Act.put, sA, sZ, sS, i64_w, i32_w]
           rfl
          refine kP 3 43 #[I, I, I, I, I, O, I, O, I, O, O, O, O, I, O, I, I, O, O, O, O] ?_ (any_of HT_.out (by kernel_rfl))
          refine take_ (i := 5) (N := some 45) (v := ?_) (a' := ?_) #[I, I, I, I, I, I, I, O, I, O, O, O, O, I, O, I, I, O, O, O, O] rfl rfl (take_ofW HT_.out HW_.out (by kernel_rfl)) (fun _ _ _ h => h) (Or.inl ⟨by rfl, ?_⟩) hHeld ?_ ?_
          rotate_left
          ·rintro w' ⟨s0, s1, s2, s3, s4, s5, s6, s7, s8⟩
           go_simp
           with_reducible rfl
          rotate_left
          ·simp only [Act.put, sA, sZ, sS, i64_w, i32_w]
           rfl
          refine take_ (i := 7) (N := some 47) (v := ?_) (a' := ?_) #[I, I, I, I, I, I, I, I, I, O, O, O, O, I, O, I, I, O, O, O, O] rfl rfl (take_ofW HT_.out HW_.out (by kernel_rfl)) (fun _ _ _ h => h) (Or.inl ⟨by rfl, ?_⟩) hHeld ?_ ?_
          rotate_left
          ·rintro w' ⟨s0, s1, s2, s3, s4, s5, s6, s7, s8⟩
           go_simp
           with_reducible rfl
          rotate_left
          ·simp only [Act.put, sA, sZ, sS, i64_w, i32_w]
           rfl
          refine kP 9 49 #[I, I, I, I, I, I, I, I, I, I, O, O, O, I, O, I, I, O, O, O, O] ?_ (any_of HT_.out (by kernel_rfl))
          refine take_ (i := 14) (N := some 54) (v := ?_) (a' := ?_) #[I, I, I, I, I, I, I, I, I, I, O, O, O, I, I, I, I, O, O, O, O] rfl rfl (take_ofW HT_.out HW_.out (by kernel_rfl)) (fun _ _ _ h => h) (Or.inl ⟨by rfl, ?_⟩) hHeld ?_ ?_
          rotate_left
          ·rintro w' ⟨s0, s1, s2, s3, s4, s5, s6, s7, s8⟩
           go_simp
           with_reducible rfl
          rotate_left
          ·simp only [Act.put, sA, sZ, sS, i64_w, i32_w]
           rfl
          refine kP 17 57 #[I, I, I, I, I, I, I, I, I, I, O, O, O, I, I, I, I, I, O, O, O] ?_ (any_of HT_.out (by kernel_rfl))
          refine one_ (i := 10) (N := some 50) #[I, I, I, I, I, I, I, I, I, I, I, O, O, I, I, I, I, I, O, O, O] rfl rfl (one_of HT_.out (by kernel_rfl)) (by decide) (fun K hK => ?_)
          refine Kd.R_lit_step (Kd.int .u8) _ 5 rfl (N := 50) rfl (xs := ([Go.bits .xor .u8 (bt t381 a1) a2] : List Int)) (inner := [.int .u8 (Go.bits .xor .u8 (bt t381 a1) a2)]) (ok := fun _ => True) (okp := fun _ => True) kG ?hp (fun _ hk => hk) trivial (Below.refl _ _) (Nat.le_refl _) (by simp) ?_; (case hp => exact (Reps.one (show Kd.M (Kd.int .u8) _ _ _ (Go.bits .xor .u8 (bt t381 a1) a2) [.int .u8 (Go.bits .xor .u8 (bt t381 a1) a2)] from rfl) (Reps.none _ _)))
          intro v386 w50 ho51 hb hg_ hnew_
          clear hg_ hnew_
          (first | rw [← Ny385.out] at ho51 | (simp only [Int.reduceToNat] at ho51; rw [← Ny385.out] at ho51))
          have HO387 := As (Kd.R_lower ho51 (below_size (kB2 HB.out GE372.out GE383.out)))
          replace BK372 := As (blk_below (kb BK372.out) hb)
          replace BK383 := As (blk_below (kb BK383.out) hb)
          replace HB := As (below_step (kB2 HB.out GE372.out GE383.out) hb)
          clear hb ho51
          refine hK.out _ _ ⟨kC BK383.out 0, kC BK383.out 1, kC BK383.out 2, kC BK383.out 3, kC BK383.out 4, kC BK383.out 5, kC BK383.out 6, kC BK383.out 7, kC BK383.out 8⟩ (fun hHeld => ?_)
          clear hK K
          refine norm_ (a' := ?_) ?_ ?_
          rotate_left
          ·show Act.put _ (some 50) _ = _
           simp only [Act.put, sA, sZ, sS, i64_w, i32_w]
           rfl
          refine one_ (i := 11) (N := some 51) #[I, I, I, I, I, I, I, I, I, I, I, I, O, I, I, I, I, I, O, O, O] rfl rfl (one_of HT_.out (by kernel_rfl)) (by decide) (fun K hK => ?_)
          have hcv52 := own_string (P := Tryd.prog) Tryd.underlying47 Tryd.underlying5 Tryd.underlying9 (Kd.own_of_R HO387.out)
          refine value_ (w1 := ?_) (v := ?_) (by rfl) rfl ?_ ?_
          rotate_left 2
          ·go_simp
           constructor
           ·rfl
           rfl
          clear hcv52
          refine hK.out _ _ ⟨kC BK383.out 0, kC BK383.out 1, kC BK383.out 2, kC BK383.out 3, kC BK383.out 4, kC BK383.out 5, kC BK383.out 6, kC BK383.out 7, kC BK383.out 8⟩ (fun hHeld => ?_)
          clear hK K
          refine norm_ (a' := ?_) ?_ ?_
          rotate_left
          ·show Act.put _ (some 51) _ = _
           simp only [Act.put, sA, sZ, sS, i64_w, i32_w]
           rfl
          refine kP 12 52 #[I, I, I, I, I, I, I, I, I, I, I, I, I, I, I, I, I, I, O, O, O] ?_ (any_of HT_.out (by kernel_rfl))
          refine kP 18 58 #[I, I, I, I, I, I, I, I, I, I, I, I, I, I, I, I, I, I, I, O, O] ?_ (any_of HT_.out (by kernel_rfl))
          refine kP 19 59 #[I, I, I, I, I, I, I, I, I, I, I, I, I, I, I, I, I, I, I, I, O] ?_ (any_of HT_.out (by kernel_rfl))
          refine last_ (i := 20) (N := none) #[I, I, I, I, I, I, I, I, I, I, I, I, I, I, I, I, I, I, I, I, I] rfl rfl (one_of HT_.out (by kernel_rfl)) (by decide) (fun K hK => ?_)
          have hs53 : w50.cell? ⟨gb383, 8, none⟩ = some (.string t381) := (blk_cell BK383.out 8).trans rfl
          have hfs53 := blk_frozen BK383.out 8
          have hns53_0 := NB372_383.out
          have hms53_0 := NB383_372.out
          refine skip_ (w1 := ?_) (by rfl) rfl ?_ ?_
          rotate_left
          ·go_simp
           rfl
          refine hK.out _ _ ?_
          clear hK K
          refine done_ (done_of HT_.out (by kernel_rfl)) ?_
          try go_wp2_with (first | ((with_reducible refine gate_dst (N := 61) rfl ?_); (try (refine gate_guard (by rfl) ?_; dsimp only)); refine wpList_load_row ?hgd 30 _ rfl gb383 rfl 30 #[.bool t373, .int .u64 t374, .int .u64 t375, .bool t376, .int .u64 t377, .int .u64 t378, .int .i64 t379, .int .i64 t380, .string (((t381.extract 0 (a1 : Int).toNat) ++ (strOfNums y385)) ++ (t381.extract ((ji23) : Int).toNat t381.size))] (0, 0) _ (by refine kb ?_; refine blk_put (cs := #[.bool t373, .int .u64 t374, .int .u64 t375, .bool t376, .int .u64 t377, .int .u64 t378, .int .i64 t379, .int .i64 t380, .string t381]) ?_ 8 _ rfl; exact kb BK383.out) Tryd.underlying30 rfl (by kernel_rfl) ?_; (case hgd => rfl)) | ((with_reducible refine gate_callee (f := 18) rfl ?_); refine goesL_ (some 62) rfl rfl Tryd.func18 (by kernel_rfl) rfl #[.agg #[.bool t373, .int .u64 t374, .int .u64 t375, .bool t376, .int .u64 t377, .int .u64 t378, .int .i64 t379, .int .i64 t380, .string (((t381.extract 0 (a1 : Int).toNat) ++ (strOfNums y385)) ++ (t381.extract ((ji23) : Int).toNat t381.size))]] rfl (by (try simp only [List.map_toArray, List.map_cons, List.map_nil]); first | done | (simp only [hji23]; rfl) | rfl | (simp only [List.length_drop, List.length_take]; rfl)) ?_; (with_reducible refine (tunnel_Inner.calls kj4 t373 t374 t375 t376 t377 t378 t379 t380 (((t381.extract 0 (a1 : Int).toNat) ++ (strOfNums y385)) ++ (t381.extract ((ji23) : Int).toNat t381.size)) t388 t389 t390 _ ?side1 A27.out).mono ?_); (case side1 => exact laid_below HLD.out (kB2 HB.out GE372.out GE383.out)); rintro e w54 ⟨rfl, hb⟩; refine ⟨_, rfl, ?_⟩; replace HO387 := As (Kd.R_below (by refine kR ?_; exact (Kd.R_mono (Kd.R_far (p := ⟨gb383, 8, none⟩) (Kd.R_types HO387.out BK383.out (by decide)) (fun _ hk => hk.2) (.string (((t381.extract 0 (a1 : Int).toNat) ++ (strOfNums y385)) ++ (t381.extract ((ji23) : Int).toNat t381.size)))) (fun _ h_ => h_.1))) hb); replace BK372 := As (blk_below (g := gb372) (o := .cells #[.bool false, .int .u64 0, .int .u64 167772161] 24 (0, 0)) (by refine kb ?_; refine blk_far ?_ NB372_383.out _; exact kb BK372.out) hb); replace BK383 := As (blk_below (g := gb383) (o := .cells #[.bool t373, .int .u64 t374, .int .u64 t375, .bool t376, .int .u64 t377, .int .u64 t378, .int .i64 t379, .int .i64 t380, .string (((t381.extract 0 (a1 : Int).toNat) ++ (strOfNums y385)) ++ (t381.extract ((ji23) : Int).toNat t381.size))] 30 (0, 0)) (by refine kb ?_; refine blk_put (cs := #[.bool t373, .int .u64 t374, .int .u64 t375, .bool t376, .int .u64 t377, .int .u64 t378, .int .i64 t379, .int .i64 t380, .string t381]) ?_ 8 _ rfl; exact kb BK383.out) hb); replace HB := As (below_step (kB2 HB.out GE372.out GE383.out) hb); (try clear hb); (try clear hk)) | (go_at_call 11; (with_reducible refine (intrusionlaw17_awake.calls kj4  t393 _ ?side1 A48.out).mono ?_); (case side1 => exact laid_below HLD.out (kB2 HB.out GE372.out GE383.out)); rintro e w55 ⟨rfl, hb⟩; replace HO387 := As (Kd.R_below (kR HO387.out) hb); replace BK372 := As (blk_below (kb BK372.out) hb); replace BK383 := As (blk_below (kb BK383.out) hb); replace HB := As (below_step (kB2 HB.out GE372.out GE383.out) hb); (try clear hb); (try clear hk)))
          go_ret
          exact ⟨by first | rfl | (simp [errW_none, errW_some] <;> rfl) | (simp only [← hji23]; first | rfl | (simp [errW_none, errW_some] <;> rfl)) | (simp [*, errW_none, errW_some] <;> rfl), by exact kB2 HB.out GE372.out GE383.out⟩
         rw [if_neg c28] at H
         exact absurd H (by simp)
        rw [if_neg c26] at H
        exact absurd H (by simp)
       rw [if_neg c25] at H
       exact absurd H (by simp)
      rw [if_neg c24] at H
      exact absurd H (by simp)
     rw [if_neg c22] at H
     exact absurd H (by simp)
    rw [if_neg c20] at H
    exact absurd H (by simp)
   rw [if_neg c19] at H
   exact absurd H (by simp)
  rw [if_neg c18] at H
  exact absurd H (by simp)

end Go.Proofs.YtocobalkikkhlaaDoor.X
-- short
