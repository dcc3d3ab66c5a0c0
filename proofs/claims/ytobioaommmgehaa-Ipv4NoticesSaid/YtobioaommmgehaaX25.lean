/- Functions and their walks, printed by xprint.py. -/
import Derived.Test.YtobioaommmgehaaX0
import Derived.Test.YtobioaommmgehaaX7
import Derived.Test.YtobioaommmgehaaX10
import Derived.Test.YtobioaommmgehaaX12
import Derived.Test.YtobioaommmgehaaX13
namespace Go.Proofs.Ytobioaommmgehaa.X
open Go.RowKit Go.Proofs.YtobioaommmgehaaW.PrintWords Go.Proofs.YtobioaommmgehaaW.PrintLast Go.Proofs.YtobioaommmgehaaW.PrintMore
attribute [local go_sem] max2_int min2_int max_two min_two max_three min_three max_four min_four   -- for this text's walks alone
set_option linter.unusedVariables false
set_option linter.unusedSimpArgs false

/-! ### intrusionlaw11_Ipv4Notices: function 8 -/
mutual
def intrusionlaw11_Ipv4Notices.j0 : Nat → Int → Int → Bool → Int → Int → Int → Int → Bool → Bool → Int → Bool → Int → Int → Bool → Int → Int → List (S50) → ByteArray → Option (Bool)
 | 0, _, _, _, _, _, _, _, _, _, _, _, _, _, _, _, _, _, _ => none
 | k + 1, x1, x2, x18, x618000, x618001, x618002, x618003, x618004, x618005, x618006, x618007, x618008, x618009, x618010, x618011, x618012, x618013, x618014 => if x18 = true then ((intrusionlaw11_awake.f k).bind fun t619 => (some t619)) else ((ipv4_Encode.f k x618000 x618001 x618002 x618003 x618004 x618005 x618006 x618007 x618008 x618009 x618010 x618011 x618012 x618013 x618014).bind fun bt620 => (if bt620.2 = 0 then (if x2 = 0 then (intrusionlaw11_Ipv4Notices.j1 k x1 x2 bt620.1 true) else (if x1 < 1 then (intrusionlaw11_Ipv4Notices.j1 k x1 x2 bt620.1 true) else (intrusionlaw11_Ipv4Notices.j1 k x1 x2 bt620.1 (decide (x1 ≥ (wrap64 ((bt620.1.size : Int) - (x618014.size : Int)))))))) else (intrusionlaw11_Ipv4Notices.j1 k x1 x2 bt620.1 true)))
def intrusionlaw11_Ipv4Notices.j1 : Nat → Int → Int → ByteArray → Bool → Option (Bool)
 | 0, _, _, _, _ => none
 | k + 1, x1, x2, x7, x44 => if x44 = true then ((intrusionlaw11_awake.f k).bind fun t622 => (some t622)) else (if 0 ≤ x1 then (if x1 ≤ (x7.size : Int) then (if x1 < (x7.size : Int) then ((some (([Go.bits .xor .u8 (bt x7 x1) x2] : List Int) : List Int)).bind fun y623 => (if (x7.extract 0 (x1 : Int).toNat).size + (strOfNums y623).size ≤ 9223372036854775807 then (if 0 ≤ (wrap64 (x1 + 1)) then (if (wrap64 (x1 + 1)) ≤ (x7.size : Int) then (if ((x7.extract 0 (x1 : Int).toNat) ++ (strOfNums y623)).size + (x7.extract ((wrap64 (x1 + 1)) : Int).toNat x7.size).size ≤ 9223372036854775807 then ((ipv4_Decode.f k (((x7.extract 0 (x1 : Int).toNat) ++ (strOfNums y623)) ++ (x7.extract ((wrap64 (x1 + 1)) : Int).toNat x7.size))).bind fun bt626 => (if bt626.2.2.2.2.2.2.2.2.2.2.2.2.2.2.2 = 0 then (none) else ((intrusionlaw11_awake.f k).bind fun t645 => (some t645)))) else (none)) else (none)) else (none)) else (none))) else (none)) else (none)) else (none))
end
def intrusionlaw11_Ipv4Notices.f (k : Nat) (b0 : Int) (b1 : Int) (b2 : Int) (b3 : Int) (b4 : Bool) (b5 : Bool) (b6 : Int) (b7 : Bool) (b8 : Int) (b9 : Int) (b10 : Bool) (b11 : Int) (b12 : Int) (l0_13 : List (S50)) (b14 : ByteArray) (a1 : Int) (a2 : Int) : Option (Bool) := (intrusionlaw11_large.f b0 b1 b2 b3 b4 b5 b6 b7 b8 b9 b10 b11 b12 l0_13 b14).bind fun t618 => (if t618 = true then (intrusionlaw11_Ipv4Notices.j0 k a1 a2 true b0 b1 b2 b3 b4 b5 b6 b7 b8 b9 b10 b11 b12 l0_13 b14) else (intrusionlaw11_Ipv4Notices.j0 k a1 a2 (decide ((b14.size : Int) > 3000)) b0 b1 b2 b3 b4 b5 b6 b7 b8 b9 b10 b11 b12 l0_13 b14))
theorem intrusionlaw11_Ipv4Notices.mono_l : ∀ k, (∀ y0 y1 y2 y3 y4 y5 y6 y7 y8 y9 y10 y11 y12 y13 y14 y15 y16 y17, LeO (intrusionlaw11_Ipv4Notices.j0 k y0 y1 y2 y3 y4 y5 y6 y7 y8 y9 y10 y11 y12 y13 y14 y15 y16 y17) (intrusionlaw11_Ipv4Notices.j0 (k + 1) y0 y1 y2 y3 y4 y5 y6 y7 y8 y9 y10 y11 y12 y13 y14 y15 y16 y17)) ∧ (∀ y0 y1 y2 y3, LeO (intrusionlaw11_Ipv4Notices.j1 k y0 y1 y2 y3) (intrusionlaw11_Ipv4Notices.j1 (k + 1) y0 y1 y2 y3))
 | 0 => ⟨fun _ _ _ _ _ _ _ _ _ _ _ _ _ _ _ _ _ _ r h => by simp [intrusionlaw11_Ipv4Notices.j0] at h, fun _ _ _ _ r h => by simp [intrusionlaw11_Ipv4Notices.j1] at h⟩
 | k + 1 => by
  obtain ⟨ih0, ih1⟩ := intrusionlaw11_Ipv4Notices.mono_l k
  refine ⟨?_, ?_⟩
  ·intro y0 y1 y2 y3 y4 y5 y6 y7 y8 y9 y10 y11 y12 y13 y14 y15 y16 y17
   unfold intrusionlaw11_Ipv4Notices.j0
   repeat' first | with_reducible first | apply ih0 | apply ih1 | apply intrusionlaw11_awake.mono | apply ipv4_Decode.mono | apply ipv4_Encode.mono | apply LeO.refl | apply LeO.none | refine LeO.ite ?_ ?_ | refine LeO.bind ?_ (fun _ => ?_)
  intro y0 y1 y2 y3
  unfold intrusionlaw11_Ipv4Notices.j1
  repeat' first | with_reducible first | apply ih0 | apply ih1 | apply intrusionlaw11_awake.mono | apply ipv4_Decode.mono | apply ipv4_Encode.mono | apply LeO.refl | apply LeO.none | refine LeO.ite ?_ ?_ | refine LeO.bind ?_ (fun _ => ?_)
theorem intrusionlaw11_Ipv4Notices.mono : ∀ a0 a1 a2 a3 a4 a5 a6 a7 a8 a9 a10 a11 a12 a13 a14 a15 a16 k, LeO (intrusionlaw11_Ipv4Notices.f k a0 a1 a2 a3 a4 a5 a6 a7 a8 a9 a10 a11 a12 a13 a14 a15 a16) (intrusionlaw11_Ipv4Notices.f (k + 1) a0 a1 a2 a3 a4 a5 a6 a7 a8 a9 a10 a11 a12 a13 a14 a15 a16) := by
 intro a0 a1 a2 a3 a4 a5 a6 a7 a8 a9 a10 a11 a12 a13 a14 a15 a16 k
 obtain ⟨ih0, ih1⟩ := intrusionlaw11_Ipv4Notices.mono_l k
 unfold intrusionlaw11_Ipv4Notices.f
 repeat' first | with_reducible first | apply ih0 | apply ih1 | apply intrusionlaw11_awake.mono | apply ipv4_Decode.mono | apply ipv4_Encode.mono | apply LeO.refl | apply LeO.none | refine LeO.ite ?_ ?_ | refine LeO.bind ?_ (fun _ => ?_)
def intrusionlaw11_Ipv4Notices.T6 : Bool × List (List Nat × List Nat) := (true, [([], []), ([], []), ([0, 1], [0, 1]), ([], []), ([], []), ([3, 4], [3, 4]), ([], []), ([5, 6], [5, 6]), ([7], [7]), ([8], [8]), ([2, 9], [2, 9]), ([], []), ([], []), ([12], [12]), ([11, 13], [11, 13]), ([10, 14], [10, 14]), ([15], [15]), ([16], [16]), ([17], [17]), ([17], [17]), ([], []), ([20, 18, 16, 0, 1, 2, 3, 4, 5, 6, 7, 8, 9, 10, 11, 12, 13, 14, 15, 16, 17, 18, 20], [18, 20]), ([19, 21, 0, 1, 2, 3, 4, 5, 6, 7, 8, 9, 10, 11, 12, 13, 14, 15, 16, 17, 18, 19, 20, 21], [19])])
def intrusionlaw11_Ipv4Notices.B6 : List Nat := [0, 0, 3, 0, 0, 24, 0, 120, 248, 504, 1023, 0, 0, 4096, 14336, 32767, 65535, 131071, 262143, 262143, 0, 1572863, 4194303]
theorem intrusionlaw11_Ipv4Notices.tab6 : rtab .any (opsOf Try.f8 6) = intrusionlaw11_Ipv4Notices.T6 := by kernel_rfl
theorem intrusionlaw11_Ipv4Notices.bits6 : waitsOk intrusionlaw11_Ipv4Notices.T6.2 intrusionlaw11_Ipv4Notices.B6 = true := by kernel_rfl
set_option maxHeartbeats 8000000 in
set_option maxRecDepth 100000 in
theorem intrusionlaw11_Ipv4Notices.calls (k : Nat) (b0 : Int) (b1 : Int) (b2 : Int) (b3 : Int) (b4 : Bool) (b5 : Bool) (b6 : Int) (b7 : Bool) (b8 : Int) (b9 : Int) (b10 : Bool) (b11 : Int) (b12 : Int) (A0_13 : Option Addr) (c0_13 : Nat) (l0_13 : List (S50)) (b14 : ByteArray) (a1 : Int) (a2 : Int) (r : Bool) (w : World) (hr0_13 : Kd.C k50 w A0_13 l0_13.length l0_13) (hc0_13 : l0_13.length ≤ c0_13) (h : intrusionlaw11_Ipv4Notices.f k b0 b1 b2 b3 b4 b5 b6 b7 b8 b9 b10 b11 b12 l0_13 b14 a1 a2 = some r) :
  Calls Try.prog 8 #[.agg #[.int .i64 b0, .int .i64 b1, .int .i64 b2, .int .i64 b3, .bool b4, .bool b5, .int .i64 b6, .bool b7, .int .u64 b8, .int .u64 b9, .bool b10, .int .u64 b11, .int .u64 b12, .slice A0_13 l0_13.length c0_13, .string b14], .int .i64 a1, .int .u8 a2] w fun e w' => e = .returned (.bool r) ∧ Below w.heap.size w w' := by
 have hu28 := Try.underlying28
 have HR0_13 := As hr0_13
 have HC0_13 := As hc0_13
 clear hr0_13 hc0_13
 have HB := As (Below.refl w.heap.size w)
 have H : ((intrusionlaw11_large.f b0 b1 b2 b3 b4 b5 b6 b7 b8 b9 b10 b11 b12 l0_13 b14).bind fun t618 => (if t618 = true then (intrusionlaw11_Ipv4Notices.j0 k a1 a2 true b0 b1 b2 b3 b4 b5 b6 b7 b8 b9 b10 b11 b12 l0_13 b14) else (intrusionlaw11_Ipv4Notices.j0 k a1 a2 (decide ((b14.size : Int) > 3000)) b0 b1 b2 b3 b4 b5 b6 b7 b8 b9 b10 b11 b12 l0_13 b14))) = some r := h
 clear h
 have HC4 := As H
 clear H
 go_enter Try.func8, Try.ntmps8
 go_upto_region 1 with (first | ((with_reducible refine gate_dst (N := 3) rfl ?_); (try (refine gate_guard (by rfl) ?_; dsimp only)); refine box_event rfl (N := 3) rfl (cs := #[.int .i64 b0, .int .i64 b1, .int .i64 b2, .int .i64 b3, .bool b4, .bool b5, .int .i64 b6, .bool b7, .int .u64 b8, .int .u64 b9, .bool b10, .int .u64 b11, .int .u64 b12, .slice A0_13 l0_13.length c0_13, .string b14]) (t := 28) kG ?_; intro gb617 hg w5 hbox hb; have BK617 := As (hbox); have GW617 := As (gS hg (below_size (kB HB.out))); have GE617 := As (gS hg (below_size (kB HB.out))); replace HB := As (below_step (kB HB.out) hb); clear hb hbox hg))
 (try simp only [Act.put, sA, sZ, sS])
 go_cut [18] (fun v18 wc => ∃ (kq : Nat) (x18_3 : Bool), v18 = .bool x18_3 ∧ Aside0 (intrusionlaw11_Ipv4Notices.j0 kq a1 a2 x18_3 b0 b1 b2 b3 b4 b5 b6 b7 b8 b9 b10 b11 b12 l0_13 b14 = some r) ∧ Aside0 (kq ≤ k) ∧ Aside0 (wc.heap[gb617]? = some (.cells #[.int .i64 b0, .int .i64 b1, .int .i64 b2, .int .i64 b3, .bool b4, .bool b5, .int .i64 b6, .bool b7, .int .u64 b8, .int .u64 b9, .bool b10, .int .u64 b11, .int .u64 b12, (.slice A0_13 l0_13.length c0_13), .string b14] 28 (0, 0))) ∧ Aside0 (Below w.heap.size w wc))
 case first =>
  have H := HC4.out
  clear HC4
  replace H := bS H
  obtain ⟨t618, A6, H⟩ := H
  by_cases c7 : t618 = true
  ·subst c7
   rw [if_pos rfl] at H
   have H' := As H
   clear H
   go_wp2_with (first | ((with_reducible refine gate_dst (N := 11) rfl ?_); (try (refine gate_guard (by rfl) ?_; dsimp only)); refine wpList_load_row rfl 28 _ rfl gb617 rfl 28 _ (0, 0) _ (kb BK617.out) Try.underlying28 rfl (by kernel_rfl) ?_) | ((with_reducible refine gate_callee (f := 14) rfl ?_); refine goesL_ (some 12) rfl rfl Try.func14 (by kernel_rfl) rfl #[.agg #[.int .i64 b0, .int .i64 b1, .int .i64 b2, .int .i64 b3, .bool b4, .bool b5, .int .i64 b6, .bool b7, .int .u64 b8, .int .u64 b9, .bool b10, .int .u64 b11, .int .u64 b12, .slice A0_13 l0_13.length c0_13, .string b14]] rfl kA ?_; (with_reducible refine (intrusionlaw11_large.calls b0 b1 b2 b3 b4 b5 b6 b7 b8 b9 b10 b11 b12 _ _ l0_13 b14 true _ ?side1 ?side2 A6.out).mono ?_); (case side1 => repeat (first | exact (Kd.C_below HR0_13.out HB.out) | (with_reducible refine Kd.C_alloc ?_ _) | (with_reducible refine Kd.C_drewN ?_ _) | (with_reducible refine Kd.C_drew ?_))); (case side2 => exact HC0_13.out); rintro e w8 ⟨rfl, hb⟩; refine ⟨_, rfl, ?_⟩; replace BK617 := As (blk_below (kb BK617.out) hb); replace HB := As (below_step (kB1 HB.out GE617.out) hb); (try clear hb)))
   go_meet
   case rel => exact ⟨_, (true), kS, H', ⟨by first | omega | exact Nat.le_refl _⟩, ⟨kb BK617.out⟩, ⟨kB1 HB.out GE617.out⟩⟩
  replace c7 := Bool.eq_false_iff.mpr c7
  subst c7
  rw [if_neg (show ¬ (false = true) by decide)] at H
  have H' := As H
  clear H
  go_wp2_with (first | ((with_reducible refine gate_dst (N := 11) rfl ?_); (try (refine gate_guard (by rfl) ?_; dsimp only)); refine wpList_load_row rfl 28 _ rfl gb617 rfl 28 _ (0, 0) _ (kb BK617.out) Try.underlying28 rfl (by kernel_rfl) ?_) | ((with_reducible refine gate_callee (f := 14) rfl ?_); refine goesL_ (some 12) rfl rfl Try.func14 (by kernel_rfl) rfl #[.agg #[.int .i64 b0, .int .i64 b1, .int .i64 b2, .int .i64 b3, .bool b4, .bool b5, .int .i64 b6, .bool b7, .int .u64 b8, .int .u64 b9, .bool b10, .int .u64 b11, .int .u64 b12, .slice A0_13 l0_13.length c0_13, .string b14]] rfl kA ?_; (with_reducible refine (intrusionlaw11_large.calls b0 b1 b2 b3 b4 b5 b6 b7 b8 b9 b10 b11 b12 _ _ l0_13 b14 false _ ?side1 ?side2 A6.out).mono ?_); (case side1 => repeat (first | exact (Kd.C_below HR0_13.out HB.out) | (with_reducible refine Kd.C_alloc ?_ _) | (with_reducible refine Kd.C_drewN ?_ _) | (with_reducible refine Kd.C_drew ?_))); (case side2 => exact HC0_13.out); rintro e w9 ⟨rfl, hb⟩; refine ⟨_, rfl, ?_⟩; replace BK617 := As (blk_below (kb BK617.out) hb); replace HB := As (below_step (kB1 HB.out GE617.out) hb); (try clear hb); have hcz10_0 := cells_15 BK617.out; have hfz10_0 := fun j_ => blk_frozen BK617.out j_))
  go_meet
  case rel => exact ⟨_, (decide ((b14.size : Int) > 3000)), kS, H', ⟨by first | omega | exact Nat.le_refl _⟩, ⟨kb BK617.out⟩, ⟨kB1 HB.out GE617.out⟩⟩
 clear HC4
 obtain ⟨kq, x18_3, rfl, HA, HJ3, BK617, HB⟩ := hcut
 cases kq with
 | zero => exact absurd HA.out (by simp [intrusionlaw11_Ipv4Notices.j0])
 | succ kj3 =>
  have H := HA.out
  clear HA
  simp only [intrusionlaw11_Ipv4Notices.j0] at H
  by_cases c11 : x18_3 = true
  ·subst c11
   rw [if_pos rfl] at H
   replace H := bS H
   obtain ⟨t619, A12, H⟩ := H
   obtain rfl := Option.some.inj H
   go_wp2_with (first | ((with_reducible refine gate_callee (f := 10) rfl ?_); refine goesL_ (some 19) rfl rfl Try.func10 (by kernel_rfl) rfl #[] rfl kA ?_; (with_reducible refine (intrusionlaw11_awake.calls kj3  t619 _ A12.out).mono ?_); rintro e w13 ⟨rfl, hb⟩; refine ⟨_, rfl, ?_⟩; replace BK617 := As (blk_below (kb BK617.out) hb); replace HB := As (below_step (kB1 HB.out GE617.out) hb); (try clear hb)))
   go_ret
   exact ⟨kE, by exact kB1 HB.out GE617.out⟩
  replace c11 := Bool.eq_false_iff.mpr c11
  subst c11
  rw [if_neg (show ¬ (false = true) by decide)] at H
  replace H := bS H
  obtain ⟨⟨t620, t621⟩, A14, H⟩ := H
  try dsimp -simprocs only at H
  have HC15 := As H
  clear H
  go_upto_region 4 with (first | ((with_reducible refine gate_dst (N := 21) rfl ?_); (try (refine gate_guard (by rfl) ?_; dsimp only)); refine wpList_load_row rfl 28 _ rfl gb617 rfl 28 _ (0, 0) _ (kb BK617.out) Try.underlying28 rfl (by kernel_rfl) ?_) | ((with_reducible refine gate_callee (f := 15) rfl ?_); refine goesL_ (some 22) rfl rfl Try.func15 (by kernel_rfl) rfl #[.agg #[.int .i64 b0, .int .i64 b1, .int .i64 b2, .int .i64 b3, .bool b4, .bool b5, .int .i64 b6, .bool b7, .int .u64 b8, .int .u64 b9, .bool b10, .int .u64 b11, .int .u64 b12, .slice A0_13 l0_13.length c0_13, .string b14]] rfl kA ?_; (with_reducible refine (ipv4_Encode.calls kj3 b0 b1 b2 b3 b4 b5 b6 b7 b8 b9 b10 b11 b12 _ _ l0_13 b14 t620 t621 _ ?side1 ?side2 A14.out).mono ?_); (case side1 => repeat (first | exact (Kd.C_below HR0_13.out HB.out) | (with_reducible refine Kd.C_alloc ?_ _) | (with_reducible refine Kd.C_drewN ?_ _) | (with_reducible refine Kd.C_drew ?_))); (case side2 => exact HC0_13.out); rintro e w16 ⟨rfl, hb⟩; refine ⟨_, rfl, ?_⟩; replace BK617 := As (blk_below (kb BK617.out) hb); replace HB := As (below_step (kB1 HB.out GE617.out) hb); (try clear hb)))
  (try simp only [Act.put, sA, sZ, sS])
  go_cut [44] (fun v44 wc => ∃ (kq : Nat) (x44_14 : Bool), v44 = .bool x44_14 ∧ Aside0 (intrusionlaw11_Ipv4Notices.j1 kq a1 a2 t620 x44_14 = some r) ∧ Aside0 (kq ≤ kj3) ∧ Aside0 (wc.heap[gb617]? = some (.cells #[.int .i64 b0, .int .i64 b1, .int .i64 b2, .int .i64 b3, .bool b4, .bool b5, .int .i64 b6, .bool b7, .int .u64 b8, .int .u64 b9, .bool b10, .int .u64 b11, .int .u64 b12, (.slice A0_13 l0_13.length c0_13), .string b14] 28 (0, 0))) ∧ Aside0 (Below w.heap.size w wc))
  case first =>
   have H := HC15.out
   clear HC15
   by_cases c17 : t621 = 0
   ·rw [if_pos c17] at H
    have c17b0 : (t621 == 0) = true := beq_iff_eq.mpr c17
    have c17b1 : (t621 != 0) = false := bne_eq_false_iff_eq.mpr c17
    clear c17
    (first | rw [c17b0] | (simp only [i64_w, i32_w]; rw [c17b0]) | skip)
    by_cases c18 : a2 = 0
    ·rw [if_pos c18] at H
     have c18b0 : (a2 == 0) = true := beq_iff_eq.mpr c18
     have c18b1 : (a2 != 0) = false := bne_eq_false_iff_eq.mpr c18
     clear c18
     have H' := As H
     clear H
     go_wp2
     go_meet
     case rel => exact ⟨_, (true), kS, H', ⟨by have := HJ3.out; first | omega | exact Nat.le_refl _⟩, ⟨kb BK617.out⟩, ⟨kB1 HB.out GE617.out⟩⟩
    rw [if_neg c18] at H
    have c18b0 : (a2 == 0) = false := beq_eq_false_iff_ne.mpr c18
    have c18b1 : (a2 != 0) = true := bne_iff_ne.mpr c18
    by_cases c19 : a1 < 1
    ·rw [if_pos c19] at H
     have c19b0 : decide (a1 < 1) = true := decide_eq_true c19
     clear c19
     have H' := As H
     clear H
     go_wp2
     go_meet
     case rel => exact ⟨_, (true), kS, H', ⟨by have := HJ3.out; first | omega | exact Nat.le_refl _⟩, ⟨kb BK617.out⟩, ⟨kB1 HB.out GE617.out⟩⟩
    rw [if_neg c19] at H
    have c19b0 : decide (a1 < 1) = false := decide_eq_false c19
    clear c19
    have H' := As H
    clear H
    have hcz20_0 := cells_15 BK617.out
    have hfz20_0 := fun j_ => blk_frozen BK617.out j_
    go_wp2
    go_meet
    case rel => exact ⟨_, (decide (a1 ≥ (wrap64 ((t620.size : Int) - (b14.size : Int))))), kS, H', ⟨by have := HJ3.out; first | omega | exact Nat.le_refl _⟩, ⟨kb BK617.out⟩, ⟨kB1 HB.out GE617.out⟩⟩
   rw [if_neg c17] at H
   have c17b0 : (t621 == 0) = false := beq_eq_false_iff_ne.mpr c17
   have c17b1 : (t621 != 0) = true := bne_iff_ne.mpr c17
   (first | rw [c17b0] | (simp only [i64_w, i32_w]; rw [c17b0]) | skip)
   have H' := As H
   clear H
   go_wp2
   go_meet
   case rel => exact ⟨_, (true), kS, H', ⟨by have := HJ3.out; first | omega | exact Nat.le_refl _⟩, ⟨kb BK617.out⟩, ⟨kB1 HB.out GE617.out⟩⟩
  clear HC15
  try clear c11
  obtain ⟨kq, x44_14, rfl, HA, HJ14, BK617, HB⟩ := hcut
  cases kq with
  | zero => exact absurd HA.out (by simp [intrusionlaw11_Ipv4Notices.j1])
  | succ kj14 =>
   have H := HA.out
   clear HA
   simp only [intrusionlaw11_Ipv4Notices.j1] at H
   by_cases c21 : x44_14 = true
   ·subst c21
    rw [if_pos rfl] at H
    replace H := bS H
    obtain ⟨t622, A22, H⟩ := H
    obtain rfl := Option.some.inj H
    go_wp2_with (first | ((with_reducible refine gate_callee (f := 10) rfl ?_); refine goesL_ (some 45) rfl rfl Try.func10 (by kernel_rfl) rfl #[] rfl kA ?_; (with_reducible refine (intrusionlaw11_awake.calls kj14  t622 _ A22.out).mono ?_); rintro e w23 ⟨rfl, hb⟩; refine ⟨_, rfl, ?_⟩; replace BK617 := As (blk_below (kb BK617.out) hb); replace HB := As (below_step (kB1 HB.out GE617.out) hb); (try clear hb)))
    go_ret
    exact ⟨kE, by exact kB1 HB.out GE617.out⟩
   replace c21 := Bool.eq_false_iff.mpr c21
   subst c21
   rw [if_neg (show ¬ (false = true) by decide)] at H
   replace H := iS H
   obtain ⟨c24, H⟩ := H
   have c24b0 := eq_true c24
   have c24b1 := decide_eq_true c24
   clear c24
   replace H := iS H
   obtain ⟨c25, H⟩ := H
   have c25b0 := eq_true c25
   have c25b1 := decide_eq_true c25
   clear c25
   replace H := iS H
   obtain ⟨c26, H⟩ := H
   have c26b0 := decide_eq_true c26
   clear c26
   replace H := yS H
   obtain ⟨y623, Ny623, H⟩ := H
   replace H := iS H
   obtain ⟨c28, H⟩ := H
   have c28b0 := eq_true c28
   have c28b1 := decide_eq_true c28
   (try (have c28s0 : (9223372036854775807 < ((a1 : Int).toNat) + (strOfNums y623).size) = False := by (try have qc24b1 := of_decide_eq_true c24b1); (try have qc25b1 := of_decide_eq_true c25b1); (try have qc26b0 := of_decide_eq_true c26b0); (try have qc28b1 := of_decide_eq_true c28b1); have h_ := c28; simp only [ByteArray.size_append, ByteArray.size_extract] at h_; exact eq_false (by first | omega | (omega))))
   (try (have c28s1 : (((a1 : Int).toNat) + (strOfNums y623).size ≤ 9223372036854775807) = True := by have h_ := c28; simp only [ByteArray.size_append, Int.natCast_add, Int.toNat_natCast] at h_; first | exact eq_true h_ | exact eq_true (by omega)))
   (try (have c28s2 : decide (((a1 : Int).toNat) + (strOfNums y623).size ≤ 9223372036854775807) = true := by have h_ := c28; first | (simp only [ByteArray.size_append, Int.toNat_natCast] at h_; first | exact beq_iff_eq.mpr h_ | exact beq_eq_false_iff_ne.mpr h_ | exact bne_iff_ne.mpr h_ | exact bne_eq_false_iff_eq.mpr h_ | (rw [beq_iff_eq.mpr h_]; rfl) | (rw [beq_eq_false_iff_ne.mpr h_]; rfl)) | (simp only [ByteArray.size_append, Int.natCast_add, Int.toNat_natCast] at h_ ⊢; first | exact h_ | simpa using h_ | simp [h_] | omega) | (simp only [ByteArray.size_append] at h_; simp at h_ ⊢; omega) | (simp only [ByteArray.size_append, Int.natCast_add, Int.toNat_natCast] at h_; simpa using h_)))
   try have c28b2 := eq_false (Nat.not_lt.2 c28)
   obtain ⟨ji29, hji29⟩ : ∃ j_ : Int, (wrap64 (a1 + 1)) = j_ := ⟨_, rfl⟩
   replace H : (if 0 ≤ (ji29) then (if (ji29) ≤ (t620.size : Int) then (if ((t620.extract 0 (a1 : Int).toNat) ++ (strOfNums y623)).size + (t620.extract ((ji29) : Int).toNat t620.size).size ≤ 9223372036854775807 then ((ipv4_Decode.f kj14 (((t620.extract 0 (a1 : Int).toNat) ++ (strOfNums y623)) ++ (t620.extract ((ji29) : Int).toNat t620.size))).bind fun bt626 => (if bt626.2.2.2.2.2.2.2.2.2.2.2.2.2.2.2 = 0 then (none) else ((intrusionlaw11_awake.f kj14).bind fun t645 => (some t645)))) else (none)) else (none)) else (none)) = some r := by first | (rw [hji29] at H; exact H) | (simp only [hji29] at H ⊢; exact H)
   have hji29w : (IntKind.i64.wrap (a1 + 1)) = ji29 := (i64_w _).trans hji29
   replace H := iS H
   obtain ⟨c30, H⟩ := H
   have c30b0 := eq_true c30
   have c30b1 := decide_eq_true c30
   clear c30
   replace H := iS H
   obtain ⟨c31, H⟩ := H
   have c31b0 := eq_true c31
   have c31b1 := decide_eq_true c31
   clear c31
   replace H := iS H
   obtain ⟨c32, H⟩ := H
   have c32b0 := eq_true c32
   have c32b1 := decide_eq_true c32
   (try (have c32s0 : (9223372036854775807 < ((a1 : Int).toNat + (strOfNums y623).size) + ((t620.size - ((ji29) : Int).toNat))) = False := by (try have qc24b1 := of_decide_eq_true c24b1); (try have qc25b1 := of_decide_eq_true c25b1); (try have qc26b0 := of_decide_eq_true c26b0); (try have qc28b1 := of_decide_eq_true c28b1); (try have qc30b1 := of_decide_eq_true c30b1); (try have qc31b1 := of_decide_eq_true c31b1); (try have qc32b1 := of_decide_eq_true c32b1); have h_ := c32; simp only [ByteArray.size_append, ByteArray.size_extract] at h_; exact eq_false (by first | omega | (omega))))
   (try (have c32s1 : (((a1 : Int).toNat + (strOfNums y623).size) + ((t620.size - ((ji29) : Int).toNat)) ≤ 9223372036854775807) = True := by have h_ := c32; simp only [ByteArray.size_append, Int.natCast_add, Int.toNat_natCast] at h_; first | exact eq_true h_ | exact eq_true (by omega)))
   (try (have c32s2 : decide (((a1 : Int).toNat + (strOfNums y623).size) + ((t620.size - ((ji29) : Int).toNat)) ≤ 9223372036854775807) = true := by have h_ := c32; first | (simp only [ByteArray.size_append, Int.toNat_natCast] at h_; first | exact beq_iff_eq.mpr h_ | exact beq_eq_false_iff_ne.mpr h_ | exact bne_iff_ne.mpr h_ | exact bne_eq_false_iff_eq.mpr h_ | (rw [beq_iff_eq.mpr h_]; rfl) | (rw [beq_eq_false_iff_ne.mpr h_]; rfl)) | (simp only [ByteArray.size_append, Int.natCast_add, Int.toNat_natCast] at h_ ⊢; first | exact h_ | simpa using h_ | simp [h_] | omega) | (simp only [ByteArray.size_append] at h_; simp at h_ ⊢; omega) | (simp only [ByteArray.size_append, Int.natCast_add, Int.toNat_natCast] at h_; simpa using h_)))
   try have c32b2 := eq_false (Nat.not_lt.2 c32)
   replace H := bS H
   obtain ⟨⟨t626, t627, t628, t629, t630, t631, t632, t633, t634, t635, t636, t637, t638, t639, t642, t643⟩, A33, H⟩ := H
   try dsimp -simprocs only at H
   by_cases c34 : t643 = 0
   ·rw [if_pos c34] at H
    exact absurd H (by simp)
   rw [if_neg c34] at H
   have c34b0 : (t643 == 0) = false := beq_eq_false_iff_ne.mpr c34
   have c34b1 : (t643 != 0) = true := bne_iff_ne.mpr c34
   replace H := bS H
   obtain ⟨t645, A35, H⟩ := H
   obtain rfl := Option.some.inj H
   try go_wp2
   replace BK617 := As (blk_drew BK617.out)
   replace HB := As (below_drew1 HB.out)
   have p27 : 0 ≤ (a1 : Int) := of_decide_eq_true (by first | (with_reducible assumption) | assumption)
   have q27 : a1 < (t620.size : Int) := of_decide_eq_true (by first | (with_reducible assumption) | assumption)
   have hx27 := bt_at t620 a1
   replace p27 := eq_true p27
   replace q27 := eq_true q27
   refine start_ (n := 23) (S := fun w' => True) (ds := []) #[O, O, O, O, O, O, O, O, O, O, O, O, O, O, O, O, O, O, O, O, O, O, O] (by kernel_rfl) rfl rfl trivial (fun hHeld => ?_); refine with_tabW intrusionlaw11_Ipv4Notices.tab6 intrusionlaw11_Ipv4Notices.bits6 (fun HT_ HW_ => ?_)
   generalize wc.drew = w36 at BK617 HB hHeld ⊢
   refine kP 0 47 #[I, O, O, O, O, O, O, O, O, O, O, O, O, O, O, O, O, O, O, O, O, O, O] ?_ (any_of HT_.out (by kernel_rfl))
   refine kP 1 48 #[I, I, O, O, O, O, O, O, O, O, O, O, O, O, O, O, O, O, O, O, O, O, O] ?_ (any_of HT_.out (by kernel_rfl))
   refine kP 2 49 #[I, I, I, O, O, O, O, O, O, O, O, O, O, O, O, O, O, O, O, O, O, O, O] ?_ (any_of HT_.out (by kernel_rfl))
   refine kP 3 50 #[I, I, I, I, O, O, O, O, O, O, O, O, O, O, O, O, O, O, O, O, O, O, O] ?_ (any_of HT_.out (by kernel_rfl))
   refine kP 4 51 #[I, I, I, I, I, O, O, O, O, O, O, O, O, O, O, O, O, O, O, O, O, O, O] ?_ (any_of HT_.out (by kernel_rfl))
   refine kP 6 53 #[I, I, I, I, I, O, I, O, O, O, O, O, O, O, O, O, O, O, O, O, O, O, O] ?_ (any_of HT_.out (by kernel_rfl))
   refine kP 11 58 #[I, I, I, I, I, O, I, O, O, O, O, I, O, O, O, O, O, O, O, O, O, O, O] ?_ (any_of HT_.out (by kernel_rfl))
   refine kP 12 59 #[I, I, I, I, I, O, I, O, O, O, O, I, I, O, O, O, O, O, O, O, O, O, O] ?_ (any_of HT_.out (by kernel_rfl))
   refine kP 13 60 #[I, I, I, I, I, O, I, O, O, O, O, I, I, I, O, O, O, O, O, O, O, O, O] ?_ (any_of HT_.out (by kernel_rfl))
   refine kP 14 61 #[I, I, I, I, I, O, I, O, O, O, O, I, I, I, I, O, O, O, O, O, O, O, O] ?_ (any_of HT_.out (by kernel_rfl))
   refine take_ (i := 5) (N := some 52) (v := ?_) (a' := ?_) #[I, I, I, I, I, I, I, O, O, O, O, I, I, I, I, O, O, O, O, O, O, O, O] rfl rfl (take_ofW HT_.out HW_.out (by kernel_rfl)) (fun _ _ _ h => h) (Or.inl ⟨by rfl, ?_⟩) hHeld ?_ ?_
   rotate_left
   ·intro w' _
    go_simp
    with_reducible rfl
   rotate_left
   ·simp only [Act.put, sA, sZ, sS, i64_w, i32_w]
    rfl
   refine kP 7 54 #[I, I, I, I, I, I, I, I, O, O, O, I, I, I, I, O, O, O, O, O, O, O, O] ?_ (any_of HT_.out (by kernel_rfl))
   refine join_ (σ := Value × Value × Nat) 2 #[I, I, I, I, I, I, I, I, I, I, I, I, I, I, I, I, I, I, I, I, I, O, O] (fun s_ => [(55, s_.1), (56, .string (strOfNums y623)), (63, .tuple #[.agg #[.int .i64 t626, .int .i64 t627, .int .i64 t628, .int .i64 t629, .bool t630, .bool t631, .int .i64 t632, .bool t633, .int .u64 t634, .int .u64 t635, .bool t636, .int .u64 t637, .int .u64 t638, s_.2.1, .string t642], .int .i64 t643]), (9, .pointer (some ⟨s_.2.2, 0, none⟩)), (57, .string ((t620.extract 0 (a1 : Int).toNat) ++ (strOfNums y623))), (62, .string (((t620.extract 0 (a1 : Int).toNat) ++ (strOfNums y623)) ++ (t620.extract ((ji29) : Int).toNat t620.size))), (46, .tuple #[.agg #[.int .i64 t626, .int .i64 t627, .int .i64 t628, .int .i64 t629, .bool t630, .bool t631, .int .i64 t632, .bool t633, .int .u64 t634, .int .u64 t635, .bool t636, .int .u64 t637, .int .u64 t638, s_.2.1, .string t642], .int .i64 t643]), (64, .agg #[.int .i64 t626, .int .i64 t627, .int .i64 t628, .int .i64 t629, .bool t630, .bool t631, .int .i64 t632, .bool t633, .int .u64 t634, .int .u64 t635, .bool t636, .int .u64 t637, .int .u64 t638, s_.2.1, .string t642]), (65, .int .i64 t643)]) (fun s_ w' => (Kd.R (Kd.int .u8) 5 w' w.heap.size (fun _ => True) s_.1 y623) ∧ (Kd.R k50 50 w' w.heap.size (fun _ => True) s_.2.1 t639) ∧ (w'.heap[gb617]? = some (.cells #[.int .i64 b0, .int .i64 b1, .int .i64 b2, .int .i64 b3, .bool b4, .bool b5, .int .i64 b6, .bool b7, .int .u64 b8, .int .u64 b9, .bool b10, .int .u64 b11, .int .u64 b12, .slice A0_13 l0_13.length c0_13, .string b14] 28 (0, 0))) ∧ (w'.heap[s_.2.2]? = some (.cells #[.int .i64 0, .int .i64 0, .int .i64 0, .int .i64 0, .bool false, .bool false, .int .i64 0, .bool false, .int .u64 0, .int .u64 0, .bool false, .int .u64 0, .int .u64 0, .slice none 0 0, .string (⟨#[]⟩ : ByteArray)] 28 (0, 0))) ∧ (w.heap.size ≤ s_.2.2) ∧ (w.heap.size ≤ s_.2.2) ∧ (gb617 ≠ s_.2.2) ∧ (s_.2.2 ≠ gb617) ∧ (Below w.heap.size w w')) ?_ ?_
   rotate_left
   ·intro hCont
    refine two_ (i := 8) (j := 20) (Ni := some 55) (Nj := some 9) #[I, I, I, I, I, I, I, I, I, O, O, I, I, I, I, O, O, O, O, O, O, O, O] #[I, I, I, I, I, I, I, I, O, O, O, I, I, I, I, O, O, O, O, O, I, O, O] rfl rfl rfl rfl (two_of HT_.out (by kernel_rfl)) (by decide) (by decide) (fun K hK => ?_) (fun K hK => ?_)
    ·skip
     refine Kd.R_lit_step (Kd.int .u8) _ 5 rfl (N := 55) rfl (xs := ([Go.bits .xor .u8 (bt t620 a1) a2] : List Int)) (inner := [.int .u8 (Go.bits .xor .u8 (bt t620 a1) a2)]) (ok := fun _ => True) (okp := fun _ => True) kG ?hp (fun _ hk => hk) trivial (Below.refl _ _) (Nat.le_refl _) (by simp) ?_; (case hp => exact (Reps.one (show Kd.M (Kd.int .u8) _ _ _ (Go.bits .xor .u8 (bt t620 a1) a2) [.int .u8 (Go.bits .xor .u8 (bt t620 a1) a2)] from rfl) (Reps.none _ _)))
     intro v624 w37 ho38 hb hg_ hnew_
     clear hg_ hnew_
     (first | rw [← Ny623.out] at ho38 | (simp only [Int.reduceToNat] at ho38; rw [← Ny623.out] at ho38))
     have HO625 := As (Kd.R_lower ho38 (below_size (kB1 HB.out GE617.out)))
     replace BK617 := As (blk_below (kb BK617.out) hb)
     replace HB := As (below_step (kB1 HB.out GE617.out) hb)
     clear hb ho38
     refine hK.out _ _ trivial (fun hHeld => ?_)
     clear hK K
     refine nP ?_
     refine two_ (i := 9) (j := 20) (Ni := some 56) (Nj := some 9) #[I, I, I, I, I, I, I, I, I, I, O, I, I, I, I, O, O, O, O, O, O, O, O] #[I, I, I, I, I, I, I, I, I, O, O, I, I, I, I, O, O, O, O, O, I, O, O] rfl rfl rfl rfl (two_of HT_.out (by kernel_rfl)) (by decide) (by decide) (fun K hK => ?_) (fun K hK => ?_)
     ·skip
      have hcv39 := own_string (P := Try.prog) Try.underlying46 Try.underlying5 Try.underlying9 (Kd.own_of_R HO625.out)
      refine value_ (w1 := ?_) (v := ?_) (by rfl) rfl ?_ ?_
      rotate_left 2
      ·go_simp
       constructor
       ·rfl
       rfl
      clear hcv39
      refine hK.out _ _ trivial (fun hHeld => ?_)
      clear hK K
      refine nP ?_
      refine kP 10 57 #[I, I, I, I, I, I, I, I, I, I, I, I, I, I, I, O, O, O, O, O, O, O, O] ?_ (any_of HT_.out (by kernel_rfl))
      refine kP 15 62 #[I, I, I, I, I, I, I, I, I, I, I, I, I, I, I, I, O, O, O, O, O, O, O] ?_ (any_of HT_.out (by kernel_rfl))
      refine two_ (i := 16) (j := 20) (Ni := some 63) (Nj := some 9) #[I, I, I, I, I, I, I, I, I, I, I, I, I, I, I, I, I, O, O, O, O, O, O] #[I, I, I, I, I, I, I, I, I, I, I, I, I, I, I, I, O, O, O, O, I, O, O] rfl rfl rfl rfl (two_of HT_.out (by kernel_rfl)) (by decide) (by decide) (fun K hK => ?_) (fun K hK => ?_)
      ·skip
       refine goes_ Try.func11 (by kernel_rfl) rfl #[.string (((t620.extract 0 (a1 : Int).toNat) ++ (strOfNums y623)) ++ (t620.extract ((ji29) : Int).toNat t620.size))] (by rfl) rfl rfl (by (try simp only [List.map_toArray, List.map_cons, List.map_nil]); first | done | (simp only [hji29]; rfl) | rfl | (simp only [List.length_drop, List.length_take]; rfl)) ?_
       with_reducible refine (ipv4_Decode.calls kj14 (((t620.extract 0 (a1 : Int).toNat) ++ (strOfNums y623)) ++ (t620.extract ((ji29) : Int).toNat t620.size)) t626 t627 t628 t629 t630 t631 t632 t633 t634 t635 t636 t637 t638 t639 t642 t643 _ A33.out).mono ?_
       rintro e w40 ⟨v640, rfl, ho0, hb⟩
       refine ⟨_, rfl, ?_⟩
       replace HO625 := As (Kd.R_below (kR HO625.out) hb)
       have HO641 := As (Kd.R_lower ho0 (below_size (kB1 HB.out GE617.out)))
       replace BK617 := As (blk_below (kb BK617.out) hb)
       replace HB := As (below_step (kB1 HB.out GE617.out) hb)
       (try clear hb)
       (try clear hb2)
       (try clear hk)
       (try clear hi)
       (try clear ho0)
       refine hK.out _ _ trivial (fun hHeld => ?_)
       clear hK K
       refine nP ?_
       refine kP 17 46 #[I, I, I, I, I, I, I, I, I, I, I, I, I, I, I, I, I, I, O, O, O, O, O] ?_ (any_of HT_.out (by kernel_rfl))
       refine kP 18 64 #[I, I, I, I, I, I, I, I, I, I, I, I, I, I, I, I, I, I, I, O, O, O, O] ?_ (any_of HT_.out (by kernel_rfl))
       refine kP 19 65 #[I, I, I, I, I, I, I, I, I, I, I, I, I, I, I, I, I, I, I, I, O, O, O] ?_ (any_of HT_.out (by kernel_rfl))
       refine one_ (i := 20) (N := some 9) #[I, I, I, I, I, I, I, I, I, I, I, I, I, I, I, I, I, I, I, I, I, O, O] rfl rfl (one_of HT_.out (by kernel_rfl)) (by decide) (fun K hK => ?_)
       refine box_step rfl (N := 9) rfl (cs := #[.int .i64 0, .int .i64 0, .int .i64 0, .int .i64 0, .bool false, .bool false, .int .i64 0, .bool false, .int .u64 0, .int .u64 0, .bool false, .int .u64 0, .int .u64 0, .slice none 0 0, .string (⟨#[]⟩ : ByteArray)]) (t := 28) kG ?_
       intro gb644 hg w41 hbox hb
       replace HO625 := As (Kd.R_below (kR HO625.out) hb)
       replace HO641 := As (Kd.R_below (kR HO641.out) hb)
       have BK644 := As (hbox)
       have GW644 := As (gS hg (below_size (kB1 HB.out GE617.out)))
       have GE644 := As (gS hg (below_size (kB1 HB.out GE617.out)))
       replace HB := As (below_step (kB1 HB.out GE617.out) hb)
       have NB617_644 := As (gN hg (blk_lt (kb BK617.out)))
       have NB644_617 := As (gM hg (blk_lt (kb BK617.out)))
       replace BK617 := As (blk_below (kb BK617.out) hb)
       clear hb hbox hg
       refine hK.out _ _ trivial (fun hHeld => ?_)
       clear hK K
       refine nP ?_
       exact norm_ (by simp only [putAll, Act.put, sA, sZ, sS]) (hCont (v624, v640, gb644) _ ⟨(kR HO625.out), (kR HO641.out), (kb BK617.out), (kb BK644.out), GW644.out, GE644.out, NB617_644.out, NB644_617.out, (kB2 HB.out GE617.out GE644.out)⟩)
      skip
      refine box_step rfl (N := 9) rfl (cs := #[.int .i64 0, .int .i64 0, .int .i64 0, .int .i64 0, .bool false, .bool false, .int .i64 0, .bool false, .int .u64 0, .int .u64 0, .bool false, .int .u64 0, .int .u64 0, .slice none 0 0, .string (⟨#[]⟩ : ByteArray)]) (t := 28) kG ?_
      intro gb644 hg w40 hbox hb
      replace HO625 := As (Kd.R_below (kR HO625.out) hb)
      have BK644 := As (hbox)
      have GW644 := As (gS hg (below_size (kB1 HB.out GE617.out)))
      have GE644 := As (gS hg (below_size (kB1 HB.out GE617.out)))
      replace HB := As (below_step (kB1 HB.out GE617.out) hb)
      have NB617_644 := As (gN hg (blk_lt (kb BK617.out)))
      have NB644_617 := As (gM hg (blk_lt (kb BK617.out)))
      replace BK617 := As (blk_below (kb BK617.out) hb)
      clear hb hbox hg
      refine hK.out _ _ trivial (fun hHeld => ?_)
      clear hK K
      refine nP ?_
      refine one_ (i := 16) (N := some 63) #[I, I, I, I, I, I, I, I, I, I, I, I, I, I, I, I, I, O, O, O, I, O, O] rfl rfl (one_of HT_.out (by kernel_rfl)) (by decide) (fun K hK => ?_)
      refine goes_ Try.func11 (by kernel_rfl) rfl #[.string (((t620.extract 0 (a1 : Int).toNat) ++ (strOfNums y623)) ++ (t620.extract ((ji29) : Int).toNat t620.size))] (by rfl) rfl rfl (by (try simp only [List.map_toArray, List.map_cons, List.map_nil]); first | done | (simp only [hji29]; rfl) | rfl | (simp only [List.length_drop, List.length_take]; rfl)) ?_
      with_reducible refine (ipv4_Decode.calls kj14 (((t620.extract 0 (a1 : Int).toNat) ++ (strOfNums y623)) ++ (t620.extract ((ji29) : Int).toNat t620.size)) t626 t627 t628 t629 t630 t631 t632 t633 t634 t635 t636 t637 t638 t639 t642 t643 _ A33.out).mono ?_
      rintro e w41 ⟨v640, rfl, ho0, hb⟩
      refine ⟨_, rfl, ?_⟩
      replace HO625 := As (Kd.R_below (kR HO625.out) hb)
      have HO641 := As (Kd.R_lower ho0 (below_size (kB2 HB.out GE617.out GE644.out)))
      replace BK617 := As (blk_below (kb BK617.out) hb)
      replace BK644 := As (blk_below (kb BK644.out) hb)
      replace HB := As (below_step (kB2 HB.out GE617.out GE644.out) hb)
      (try clear hb)
      (try clear hb2)
      (try clear hk)
      (try clear hi)
      (try clear ho0)
      refine hK.out _ _ trivial (fun hHeld => ?_)
      clear hK K
      refine nP ?_
      refine kP 17 46 #[I, I, I, I, I, I, I, I, I, I, I, I, I, I, I, I, I, I, O, O, I, O, O] ?_ (any_of HT_.out (by kernel_rfl))
      refine kP 18 64 #[I, I, I, I, I, I, I, I, I, I, I, I, I, I, I, I, I, I, I, O, I, O, O] ?_ (any_of HT_.out (by kernel_rfl))
      refine kP 19 65 #[I, I, I, I, I, I, I, I, I, I, I, I, I, I, I, I, I, I, I, I, I, O, O] ?_ (any_of HT_.out (by kernel_rfl))
      exact norm_ (by simp only [putAll, Act.put, sA, sZ, sS]) (hCont (v624, v640, gb644) _ ⟨(kR HO625.out), (kR HO641.out), (kb BK617.out), (kb BK644.out), GW644.out, GE644.out, NB617_644.out, NB644_617.out, (kB2 HB.out GE617.out GE644.out)⟩)
     skip
     refine box_step rfl (N := 9) rfl (cs := #[.int .i64 0, .int .i64 0, .int .i64 0, .int .i64 0, .bool false, .bool false, .int .i64 0, .bool false, .int .u64 0, .int .u64 0, .bool false, .int .u64 0, .int .u64 0, .slice none 0 0, .string (⟨#[]⟩ : ByteArray)]) (t := 28) kG ?_
     intro gb644 hg w39 hbox hb
     replace HO625 := As (Kd.R_below (kR HO625.out) hb)
     have BK644 := As (hbox)
     have GW644 := As (gS hg (below_size (kB1 HB.out GE617.out)))
     have GE644 := As (gS hg (below_size (kB1 HB.out GE617.out)))
     replace HB := As (below_step (kB1 HB.out GE617.out) hb)
     have NB617_644 := As (gN hg (blk_lt (kb BK617.out)))
     have NB644_617 := As (gM hg (blk_lt (kb BK617.out)))
     replace BK617 := As (blk_below (kb BK617.out) hb)
     clear hb hbox hg
     refine hK.out _ _ trivial (fun hHeld => ?_)
     clear hK K
     refine nP ?_
     refine one_ (i := 9) (N := some 56) #[I, I, I, I, I, I, I, I, I, I, O, I, I, I, I, O, O, O, O, O, I, O, O] rfl rfl (one_of HT_.out (by kernel_rfl)) (by decide) (fun K hK => ?_)
     have hcv40 := own_string (P := Try.prog) Try.underlying46 Try.underlying5 Try.underlying9 (Kd.own_of_R HO625.out)
     refine value_ (w1 := ?_) (v := ?_) (by rfl) rfl ?_ ?_
     rotate_left 2
     ·go_simp
      constructor
      ·rfl
      rfl
     clear hcv40
     refine hK.out _ _ trivial (fun hHeld => ?_)
     clear hK K
     refine nP ?_
     refine kP 10 57 #[I, I, I, I, I, I, I, I, I, I, I, I, I, I, I, O, O, O, O, O, I, O, O] ?_ (any_of HT_.out (by kernel_rfl))
     refine kP 15 62 #[I, I, I, I, I, I, I, I, I, I, I, I, I, I, I, I, O, O, O, O, I, O, O] ?_ (any_of HT_.out (by kernel_rfl))
     refine one_ (i := 16) (N := some 63) #[I, I, I, I, I, I, I, I, I, I, I, I, I, I, I, I, I, O, O, O, I, O, O] rfl rfl (one_of HT_.out (by kernel_rfl)) (by decide) (fun K hK => ?_)
     refine goes_ Try.func11 (by kernel_rfl) rfl #[.string (((t620.extract 0 (a1 : Int).toNat) ++ (strOfNums y623)) ++ (t620.extract ((ji29) : Int).toNat t620.size))] (by rfl) rfl rfl (by (try simp only [List.map_toArray, List.map_cons, List.map_nil]); first | done | (simp only [hji29]; rfl) | rfl | (simp only [List.length_drop, List.length_take]; rfl)) ?_
     with_reducible refine (ipv4_Decode.calls kj14 (((t620.extract 0 (a1 : Int).toNat) ++ (strOfNums y623)) ++ (t620.extract ((ji29) : Int).toNat t620.size)) t626 t627 t628 t629 t630 t631 t632 t633 t634 t635 t636 t637 t638 t639 t642 t643 _ A33.out).mono ?_
     rintro e w41 ⟨v640, rfl, ho0, hb⟩
     refine ⟨_, rfl, ?_⟩
     replace HO625 := As (Kd.R_below (kR HO625.out) hb)
     have HO641 := As (Kd.R_lower ho0 (below_size (kB2 HB.out GE617.out GE644.out)))
     replace BK617 := As (blk_below (kb BK617.out) hb)
     replace BK644 := As (blk_below (kb BK644.out) hb)
     replace HB := As (below_step (kB2 HB.out GE617.out GE644.out) hb)
     (try clear hb)
     (try clear hb2)
     (try clear hk)
     (try clear hi)
     (try clear ho0)
     refine hK.out _ _ trivial (fun hHeld => ?_)
     clear hK K
     refine nP ?_
     refine kP 17 46 #[I, I, I, I, I, I, I, I, I, I, I, I, I, I, I, I, I, I, O, O, I, O, O] ?_ (any_of HT_.out (by kernel_rfl))
     refine kP 18 64 #[I, I, I, I, I, I, I, I, I, I, I, I, I, I, I, I, I, I, I, O, I, O, O] ?_ (any_of HT_.out (by kernel_rfl))
     refine kP 19 65 #[I, I, I, I, I, I, I, I, I, I, I, I, I, I, I, I, I, I, I, I, I, O, O] ?_ (any_of HT_.out (by kernel_rfl))
     exact norm_ (by simp only [putAll, Act.put, sA, sZ, sS]) (hCont (v624, v640, gb644) _ ⟨(kR HO625.out), (kR HO641.out), (kb BK617.out), (kb BK644.out), GW644.out, GE644.out, NB617_644.out, NB644_617.out, (kB2 HB.out GE617.out GE644.out)⟩)
    skip
    refine box_step rfl (N := 9) rfl (cs := #[.int .i64 0, .int .i64 0, .int .i64 0, .int .i64 0, .bool false, .bool false, .int .i64 0, .bool false, .int .u64 0, .int .u64 0, .bool false, .int .u64 0, .int .u64 0, .slice none 0 0, .string (⟨#[]⟩ : ByteArray)]) (t := 28) kG ?_
    intro gb644 hg w37 hbox hb
    have BK644 := As (hbox)
    have GW644 := As (gS hg (below_size (kB1 HB.out GE617.out)))
    have GE644 := As (gS hg (below_size (kB1 HB.out GE617.out)))
    replace HB := As (below_step (kB1 HB.out GE617.out) hb)
    have NB617_644 := As (gN hg (blk_lt (kb BK617.out)))
    have NB644_617 := As (gM hg (blk_lt (kb BK617.out)))
    replace BK617 := As (blk_below (kb BK617.out) hb)
    clear hb hbox hg
    refine hK.out _ _ trivial (fun hHeld => ?_)
    clear hK K
    refine nP ?_
    refine one_ (i := 8) (N := some 55) #[I, I, I, I, I, I, I, I, I, O, O, I, I, I, I, O, O, O, O, O, I, O, O] rfl rfl (one_of HT_.out (by kernel_rfl)) (by decide) (fun K hK => ?_)
    refine Kd.R_lit_step (Kd.int .u8) _ 5 rfl (N := 55) rfl (xs := ([Go.bits .xor .u8 (bt t620 a1) a2] : List Int)) (inner := [.int .u8 (Go.bits .xor .u8 (bt t620 a1) a2)]) (ok := fun _ => True) (okp := fun _ => True) kG ?hp (fun _ hk => hk) trivial (Below.refl _ _) (Nat.le_refl _) (by simp) ?_; (case hp => exact (Reps.one (show Kd.M (Kd.int .u8) _ _ _ (Go.bits .xor .u8 (bt t620 a1) a2) [.int .u8 (Go.bits .xor .u8 (bt t620 a1) a2)] from rfl) (Reps.none _ _)))
    intro v624 w38 ho39 hb hg_ hnew_
    clear hg_ hnew_
    (first | rw [← Ny623.out] at ho39 | (simp only [Int.reduceToNat] at ho39; rw [← Ny623.out] at ho39))
    have HO625 := As (Kd.R_lower ho39 (below_size (kB2 HB.out GE617.out GE644.out)))
    replace BK617 := As (blk_below (kb BK617.out) hb)
    replace BK644 := As (blk_below (kb BK644.out) hb)
    replace HB := As (below_step (kB2 HB.out GE617.out GE644.out) hb)
    clear hb ho39
    refine hK.out _ _ trivial (fun hHeld => ?_)
    clear hK K
    refine nP ?_
    refine one_ (i := 9) (N := some 56) #[I, I, I, I, I, I, I, I, I, I, O, I, I, I, I, O, O, O, O, O, I, O, O] rfl rfl (one_of HT_.out (by kernel_rfl)) (by decide) (fun K hK => ?_)
    have hcv40 := own_string (P := Try.prog) Try.underlying46 Try.underlying5 Try.underlying9 (Kd.own_of_R HO625.out)
    refine value_ (w1 := ?_) (v := ?_) (by rfl) rfl ?_ ?_
    rotate_left 2
    ·go_simp
     constructor
     ·rfl
     rfl
    clear hcv40
    refine hK.out _ _ trivial (fun hHeld => ?_)
    clear hK K
    refine nP ?_
    refine kP 10 57 #[I, I, I, I, I, I, I, I, I, I, I, I, I, I, I, O, O, O, O, O, I, O, O] ?_ (any_of HT_.out (by kernel_rfl))
    refine kP 15 62 #[I, I, I, I, I, I, I, I, I, I, I, I, I, I, I, I, O, O, O, O, I, O, O] ?_ (any_of HT_.out (by kernel_rfl))
    refine one_ (i := 16) (N := some 63) #[I, I, I, I, I, I, I, I, I, I, I, I, I, I, I, I, I, O, O, O, I, O, O] rfl rfl (one_of HT_.out (by kernel_rfl)) (by decide) (fun K hK => ?_)
    refine goes_ Try.func11 (by kernel_rfl) rfl #[.string (((t620.extract 0 (a1 : Int).toNat) ++ (strOfNums y623)) ++ (t620.extract ((ji29) : Int).toNat t620.size))] (by rfl) rfl rfl (by (try simp only [List.map_toArray, List.map_cons, List.map_nil]); first | done | (simp only [hji29]; rfl) | rfl | (simp only [List.length_drop, List.length_take]; rfl)) ?_
    with_reducible refine (ipv4_Decode.calls kj14 (((t620.extract 0 (a1 : Int).toNat) ++ (strOfNums y623)) ++ (t620.extract ((ji29) : Int).toNat t620.size)) t626 t627 t628 t629 t630 t631 t632 t633 t634 t635 t636 t637 t638 t639 t642 t643 _ A33.out).mono ?_
    rintro e w41 ⟨v640, rfl, ho0, hb⟩
    refine ⟨_, rfl, ?_⟩
    replace HO625 := As (Kd.R_below (kR HO625.out) hb)
    have HO641 := As (Kd.R_lower ho0 (below_size (kB2 HB.out GE617.out GE644.out)))
    replace BK617 := As (blk_below (kb BK617.out) hb)
    replace BK644 := As (blk_below (kb BK644.out) hb)
    replace HB := As (below_step (kB2 HB.out GE617.out GE644.out) hb)
    (try clear hb)
    (try clear hb2)
    (try clear hk)
    (try clear hi)
    (try clear ho0)
    refine hK.out _ _ trivial (fun hHeld => ?_)
    clear hK K
    refine nP ?_
    refine kP 17 46 #[I, I, I, I, I, I, I, I, I, I, I, I, I, I, I, I, I, I, O, O, I, O, O] ?_ (any_of HT_.out (by kernel_rfl))
    refine kP 18 64 #[I, I, I, I, I, I, I, I, I, I, I, I, I, I, I, I, I, I, I, O, I, O, O] ?_ (any_of HT_.out (by kernel_rfl))
    refine kP 19 65 #[I, I, I, I, I, I, I, I, I, I, I, I, I, I, I, I, I, I, I, I, I, O, O] ?_ (any_of HT_.out (by kernel_rfl))
    exact norm_ (by simp only [putAll, Act.put, sA, sZ, sS]) (hCont (v624, v640, gb644) _ ⟨(kR HO625.out), (kR HO641.out), (kb BK617.out), (kb BK644.out), GW644.out, GE644.out, NB617_644.out, NB644_617.out, (kB2 HB.out GE617.out GE644.out)⟩)
   rintro ⟨v624, v640, gb644⟩ w42 ⟨h0_, h1_, h2_, h3_, h4_, h5_, h6_, h7_, h8_⟩
   have n0_ : Aside0 (Kd.R (Kd.int .u8) 5 w42 w.heap.size (fun _ => True) v624 y623) := ⟨h0_⟩
   have n1_ : Aside0 (Kd.R k50 50 w42 w.heap.size (fun _ => True) v640 t639) := ⟨h1_⟩
   have n2_ : Aside0 (w42.heap[gb617]? = some (.cells #[.int .i64 b0, .int .i64 b1, .int .i64 b2, .int .i64 b3, .bool b4, .bool b5, .int .i64 b6, .bool b7, .int .u64 b8, .int .u64 b9, .bool b10, .int .u64 b11, .int .u64 b12, .slice A0_13 l0_13.length c0_13, .string b14] 28 (0, 0))) := ⟨h2_⟩
   have n3_ : Aside0 (w42.heap[gb644]? = some (.cells #[.int .i64 0, .int .i64 0, .int .i64 0, .int .i64 0, .bool false, .bool false, .int .i64 0, .bool false, .int .u64 0, .int .u64 0, .bool false, .int .u64 0, .int .u64 0, .slice none 0 0, .string (⟨#[]⟩ : ByteArray)] 28 (0, 0))) := ⟨h3_⟩
   have n4_ : Aside0 (w.heap.size ≤ gb644) := ⟨h4_⟩
   have n5_ : Aside0 (w.heap.size ≤ gb644) := ⟨h5_⟩
   have n6_ : Aside0 (gb617 ≠ gb644) := ⟨h6_⟩
   have n7_ : Aside0 (gb644 ≠ gb617) := ⟨h7_⟩
   have n8_ : Aside0 (Below w.heap.size w w42) := ⟨h8_⟩
   clear BK617
   clear HB
   clear h0_ h1_ h2_ h3_ h4_ h5_ h6_ h7_ h8_
   have HO625 := n0_
   have HO641 := n1_
   have BK617 := n2_
   have BK644 := n3_
   have GW644 := n4_
   have GE644 := n5_
   have NB617_644 := n6_
   have NB644_617 := n7_
   have HB := n8_
   clear n0_ n1_ n2_ n3_ n4_ n5_ n6_ n7_ n8_
   have hHeld := trivial
   obtain ⟨Ao56, co56, eo56⟩ := Kd.R_slice HO641.out
   (first | subst eo56 | (injection eo56 with f1_ f2_ f3_; have f4_ := f1_.symm; have f5_ := f3_.symm; clear f1_ f2_ f3_; subst f4_; subst f5_))
   refine norm_ (a' := ?_) ?_ ?_
   rotate_left
   ·simp only [putAll, Act.put, sA, sZ, sS]
    rfl
   refine one_ (i := 21) (N := none) #[I, I, I, I, I, I, I, I, I, I, I, I, I, I, I, I, I, I, I, I, I, I, O] rfl rfl (one_of HT_.out (by kernel_rfl)) (by decide) (fun K hK => ?_)
   have hs43 : w42.cell? ⟨gb644, 0, none⟩ = some (.int .i64 0) := (blk_cell BK644.out 0).trans rfl
   have hfs43 := blk_frozen BK644.out 0
   have hns43_0 := NB617_644.out
   have hms43_0 := NB644_617.out
   have hs44 : w42.cell? ⟨gb644, 1, none⟩ = some (.int .i64 0) := (blk_cell BK644.out 1).trans rfl
   have hfs44 := blk_frozen BK644.out 1
   have hns44_0 := NB617_644.out
   have hms44_0 := NB644_617.out
   have hs45 : w42.cell? ⟨gb644, 2, none⟩ = some (.int .i64 0) := (blk_cell BK644.out 2).trans rfl
   have hfs45 := blk_frozen BK644.out 2
   have hns45_0 := NB617_644.out
   have hms45_0 := NB644_617.out
   have hs46 : w42.cell? ⟨gb644, 3, none⟩ = some (.int .i64 0) := (blk_cell BK644.out 3).trans rfl
   have hfs46 := blk_frozen BK644.out 3
   have hns46_0 := NB617_644.out
   have hms46_0 := NB644_617.out
   have hs47 : w42.cell? ⟨gb644, 4, none⟩ = some (.bool false) := (blk_cell BK644.out 4).trans rfl
   have hfs47 := blk_frozen BK644.out 4
   have hns47_0 := NB617_644.out
   have hms47_0 := NB644_617.out
   have hs48 : w42.cell? ⟨gb644, 5, none⟩ = some (.bool false) := (blk_cell BK644.out 5).trans rfl
   have hfs48 := blk_frozen BK644.out 5
   have hns48_0 := NB617_644.out
   have hms48_0 := NB644_617.out
   have hs49 : w42.cell? ⟨gb644, 6, none⟩ = some (.int .i64 0) := (blk_cell BK644.out 6).trans rfl
   have hfs49 := blk_frozen BK644.out 6
   have hns49_0 := NB617_644.out
   have hms49_0 := NB644_617.out
   have hs50 : w42.cell? ⟨gb644, 7, none⟩ = some (.bool false) := (blk_cell BK644.out 7).trans rfl
   have hfs50 := blk_frozen BK644.out 7
   have hns50_0 := NB617_644.out
   have hms50_0 := NB644_617.out
   have hs51 : w42.cell? ⟨gb644, 8, none⟩ = some (.int .u64 0) := (blk_cell BK644.out 8).trans rfl
   have hfs51 := blk_frozen BK644.out 8
   have hns51_0 := NB617_644.out
   have hms51_0 := NB644_617.out
   have hs52 : w42.cell? ⟨gb644, 9, none⟩ = some (.int .u64 0) := (blk_cell BK644.out 9).trans rfl
   have hfs52 := blk_frozen BK644.out 9
   have hns52_0 := NB617_644.out
   have hms52_0 := NB644_617.out
   have hs53 : w42.cell? ⟨gb644, 10, none⟩ = some (.bool false) := (blk_cell BK644.out 10).trans rfl
   have hfs53 := blk_frozen BK644.out 10
   have hns53_0 := NB617_644.out
   have hms53_0 := NB644_617.out
   have hs54 : w42.cell? ⟨gb644, 11, none⟩ = some (.int .u64 0) := (blk_cell BK644.out 11).trans rfl
   have hfs54 := blk_frozen BK644.out 11
   have hns54_0 := NB617_644.out
   have hms54_0 := NB644_617.out
   have hs55 : w42.cell? ⟨gb644, 12, none⟩ = some (.int .u64 0) := (blk_cell BK644.out 12).trans rfl
   have hfs55 := blk_frozen BK644.out 12
   have hns55_0 := NB617_644.out
   have hms55_0 := NB644_617.out
   have hs57 : w42.cell? ⟨gb644, 13, none⟩ = some (.slice none 0 0) := (blk_cell BK644.out 13).trans rfl
   have hfs57 := blk_frozen BK644.out 13
   have hns57_0 := NB617_644.out
   have hms57_0 := NB644_617.out
   have hs58 : w42.cell? ⟨gb644, 14, none⟩ = some (.string (⟨#[]⟩ : ByteArray)) := (blk_cell BK644.out 14).trans rfl
   have hfs58 := blk_frozen BK644.out 14
   have hns58_0 := NB617_644.out
   have hms58_0 := NB644_617.out
   refine skip_ (w1 := ?_) (by rfl) rfl ?_ ?_
   rotate_left
   ·go_simp
    rfl
   refine hK.out _ _ trivial (fun hHeld => ?_)
   clear hK K
   refine kP 22 10 #[I, I, I, I, I, I, I, I, I, I, I, I, I, I, I, I, I, I, I, I, I, I, I] ?_ (any_of HT_.out (by kernel_rfl))
   refine done_ (done_of HT_.out (by kernel_rfl)) ?_
   try go_wp2_with (first | (go_at_call 10; (with_reducible refine (intrusionlaw11_awake.calls kj14  t645 _ A35.out).mono ?_); rintro e w59 ⟨rfl, hb⟩; replace HO625 := As (Kd.R_below (by refine kR ?_; exact (Kd.R_mono (Kd.R_puts_0_15 gb644 (.int .i64 t626) (.int .i64 t627) (.int .i64 t628) (.int .i64 t629) (.bool t630) (.bool t631) (.int .i64 t632) (.bool t633) (.int .u64 t634) (.int .u64 t635) (.bool t636) (.int .u64 t637) (.int .u64 t638) (.slice Ao56 t639.length co56) (.string t642) (Kd.R_types HO625.out BK644.out (by decide)) (fun _ hk => hk.2)) (fun _ h_ => h_.1))) hb); replace HO641 := As (Kd.R_below (by refine kR ?_; exact (Kd.R_mono (Kd.R_puts_0_15 gb644 (.int .i64 t626) (.int .i64 t627) (.int .i64 t628) (.int .i64 t629) (.bool t630) (.bool t631) (.int .i64 t632) (.bool t633) (.int .u64 t634) (.int .u64 t635) (.bool t636) (.int .u64 t637) (.int .u64 t638) (.slice Ao56 t639.length co56) (.string t642) (Kd.R_types HO641.out BK644.out (by decide)) (fun _ hk => hk.2)) (fun _ h_ => h_.1))) hb); replace BK617 := As (blk_below (g := gb617) (o := .cells #[.int .i64 b0, .int .i64 b1, .int .i64 b2, .int .i64 b3, .bool b4, .bool b5, .int .i64 b6, .bool b7, .int .u64 b8, .int .u64 b9, .bool b10, .int .u64 b11, .int .u64 b12, .slice A0_13 l0_13.length c0_13, .string b14] 28 (0, 0)) (by refine kb ?_; (iterate 15 (refine blk_far ?_ NB617_644.out _; refine kb ?_)); exact BK617.out) hb); replace BK644 := As (blk_below (g := gb644) (o := .cells #[.int .i64 t626, .int .i64 t627, .int .i64 t628, .int .i64 t629, .bool t630, .bool t631, .int .i64 t632, .bool t633, .int .u64 t634, .int .u64 t635, .bool t636, .int .u64 t637, .int .u64 t638, .slice Ao56 t639.length co56, .string t642] 28 (0, 0)) (by refine kb ?_; exact blk_all_15 (kb BK644.out) (by rfl)) hb); replace HB := As (below_step (kB2 HB.out GE617.out GE644.out) hb); (try clear hb); (try clear hk)))
   go_ret
   exact ⟨by first | rfl | (simp [errW_none, errW_some] <;> rfl) | (simp only [← hji29]; first | rfl | (simp [errW_none, errW_some] <;> rfl)) | (simp [*, errW_none, errW_some] <;> rfl), by exact kB2 HB.out GE617.out GE644.out⟩

end Go.Proofs.Ytobioaommmgehaa.X
-- short
-- short2
