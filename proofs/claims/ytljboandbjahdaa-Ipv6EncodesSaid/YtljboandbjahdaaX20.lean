/- What the functions of the translation that this claim's statement reaches compute, each proved by its walk. Written by xprint.py, a program of this claim's author, run over the kit's printer. -/
import Derived.Test.YtljboandbjahdaaX0
import Derived.Test.YtljboandbjahdaaX9
import Derived.Test.YtljboandbjahdaaX12
import Derived.Test.YtljboandbjahdaaX13
import Derived.Test.YtljboandbjahdaaX16
namespace Go.Proofs.Ytljboandbjahdaa.X
open Go.RowKit Go.Proofs.YtljboandbjahdaaW.PrintWords Go.Proofs.YtljboandbjahdaaW.PrintLast Go.Proofs.YtljboandbjahdaaW.PrintMore
attribute [local go_sem] max2_int min2_int max_two min_two max_three min_three max_four min_four   -- for this text's walks alone
set_option linter.unusedVariables false
set_option linter.unusedSimpArgs false

/-! ### intrusionlaw12_Ipv6Encodes: function 4 -/
def intrusionlaw12_Ipv6Encodes.f (k : Nat) (b0 : Int) (b1 : Int) (b2 : Int) (b3 : Int) (b4 : Bool) (b5 : Int) (b6 : Int) (b7 : Bool) (b8 : Int) (b9 : Int) (l0_10 : List (S60)) (b11 : Bool) (b12 : Int) (b13 : Int) (b14 : Bool) (b15 : ByteArray) : Option (Bool) := (intrusionref12_Long.f k b0 b1 b2 b3 b4 b5 b6 b7 b8 b9 l0_10 b11 b12 b13 b14 b15 66000).bind fun t479 => (if t479 = true then ((intrusionlaw12_lives.f k).bind fun t480 => (some t480)) else ((ipv6_Encode.f k b0 b1 b2 b3 b4 b5 b6 b7 b8 b9 l0_10 b11 b12 b13 b14 b15).bind fun bt481 => ((intrusionref12_Encode.f k b0 b1 b2 b3 b4 b5 b6 b7 b8 b9 l0_10 b11 b12 b13 b14 b15).bind fun bt483 => (if bt481.1.toList = bt483.1.toList then (if bt481.2 = bt483.2 then ((intrusionlaw12_lives.f k).bind fun t485 => (some t485)) else (none)) else (none)))))
theorem intrusionlaw12_Ipv6Encodes.mono : ∀ a0 a1 a2 a3 a4 a5 a6 a7 a8 a9 a10 a11 a12 a13 a14 a15 k, LeO (intrusionlaw12_Ipv6Encodes.f k a0 a1 a2 a3 a4 a5 a6 a7 a8 a9 a10 a11 a12 a13 a14 a15) (intrusionlaw12_Ipv6Encodes.f (k + 1) a0 a1 a2 a3 a4 a5 a6 a7 a8 a9 a10 a11 a12 a13 a14 a15) := by
 intro a0 a1 a2 a3 a4 a5 a6 a7 a8 a9 a10 a11 a12 a13 a14 a15 k
 unfold intrusionlaw12_Ipv6Encodes.f
 repeat' first | with_reducible first | apply intrusionlaw12_lives.mono | apply intrusionref12_Encode.mono | apply intrusionref12_Long.mono | apply ipv6_Encode.mono | apply LeO.refl | apply LeO.none | refine LeO.ite ?_ ?_ | refine LeO.bind ?_ (fun _ => ?_)
set_option maxHeartbeats 8000000 in
set_option maxRecDepth 100000 in
theorem intrusionlaw12_Ipv6Encodes.calls (k : Nat) (b0 : Int) (b1 : Int) (b2 : Int) (b3 : Int) (b4 : Bool) (b5 : Int) (b6 : Int) (b7 : Bool) (b8 : Int) (b9 : Int) (A0_10 : Option Addr) (c0_10 : Nat) (l0_10 : List (S60)) (b11 : Bool) (b12 : Int) (b13 : Int) (b14 : Bool) (b15 : ByteArray) (r : Bool) (w : World) (hr0_10 : Kd.C k60 w A0_10 l0_10.length l0_10) (hc0_10 : l0_10.length ≤ c0_10) (h : intrusionlaw12_Ipv6Encodes.f k b0 b1 b2 b3 b4 b5 b6 b7 b8 b9 l0_10 b11 b12 b13 b14 b15 = some r) :
  Calls Try.prog 4 #[.agg #[.int .i64 b0, .int .i64 b1, .int .i64 b2, .int .i64 b3, .bool b4, .int .u64 b5, .int .u64 b6, .bool b7, .int .u64 b8, .int .u64 b9, .slice A0_10 l0_10.length c0_10, .bool b11, .int .i64 b12, .int .i64 b13, .bool b14, .string b15]] w fun e w' => e = .returned (.bool r) ∧ Below w.heap.size w w' := by
 have hu28 := Try.underlying28
 have HR0_10 := As hr0_10
 have HC0_10 := As hc0_10
 clear hr0_10 hc0_10
 have HB := As (Below.refl w.heap.size w)
 have H : ((intrusionref12_Long.f k b0 b1 b2 b3 b4 b5 b6 b7 b8 b9 l0_10 b11 b12 b13 b14 b15 66000).bind fun t479 => (if t479 = true then ((intrusionlaw12_lives.f k).bind fun t480 => (some t480)) else ((ipv6_Encode.f k b0 b1 b2 b3 b4 b5 b6 b7 b8 b9 l0_10 b11 b12 b13 b14 b15).bind fun bt481 => ((intrusionref12_Encode.f k b0 b1 b2 b3 b4 b5 b6 b7 b8 b9 l0_10 b11 b12 b13 b14 b15).bind fun bt483 => (if bt481.1.toList = bt483.1.toList then (if bt481.2 = bt483.2 then ((intrusionlaw12_lives.f k).bind fun t485 => (some t485)) else (none)) else (none)))))) = some r := h
 clear h
 replace H := Option.bind_eq_some_iff.mp H
 obtain ⟨t479, A20, H⟩ := H
 replace H : (if t479 = true then ((intrusionlaw12_lives.f k).bind fun t480 => (some t480)) else ((ipv6_Encode.f k b0 b1 b2 b3 b4 b5 b6 b7 b8 b9 l0_10 b11 b12 b13 b14 b15).bind fun bt481 => ((intrusionref12_Encode.f k b0 b1 b2 b3 b4 b5 b6 b7 b8 b9 l0_10 b11 b12 b13 b14 b15).bind fun bt483 => (if bt481.1.toList = bt483.1.toList then (if bt481.2 = bt483.2 then ((intrusionlaw12_lives.f k).bind fun t485 => (some t485)) else (none)) else (none))))) = some r := H
 have A2 := As A20
 clear A20
 by_cases c3 : t479 = true
 ·subst c3
  have H1 : ((intrusionlaw12_lives.f k).bind fun t480 => (some t480)) = some r := by rw [if_pos rfl] at H; exact H
  clear H
  have H := H1
  clear H1
  replace H := Option.bind_eq_some_iff.mp H
  obtain ⟨t480, A40, H⟩ := H
  replace H : (some t480) = some r := H
  have A4 := As A40
  clear A40
  obtain rfl := Option.some.inj H
  go_enter Try.func4, Try.ntmps4
  go_wp2_with (first | ((with_reducible refine gate_dst (N := 1) rfl ?_); refine box_event rfl (N := 1) rfl (cs := #[.int .i64 b0, .int .i64 b1, .int .i64 b2, .int .i64 b3, .bool b4, .int .u64 b5, .int .u64 b6, .bool b7, .int .u64 b8, .int .u64 b9, .slice A0_10 l0_10.length c0_10, .bool b11, .int .i64 b12, .int .i64 b13, .bool b14, .string b15]) (t := 28) kG ?_; intro gb478 hg w5 hbox hb; have BK478 := As (hbox); have GW478 := As ((by rw [hg]; exact (below_size (kB HB.out)) : w.heap.size ≤ gb478)); have GE478 := As ((by rw [hg]; exact (below_size (kB HB.out)) : w.heap.size ≤ gb478)); replace HB := As (below_step (kB HB.out) hb); clear hb hbox hg) | ((with_reducible refine gate_dst (N := 7) rfl ?_); refine wpList_load_row rfl 28 _ rfl gb478 rfl 28 _ (0, 0) _ (kb BK478.out) Try.underlying28 rfl (by kernel_rfl) ?_) | ((with_reducible refine gate_callee (f := 14) rfl ?_); refine goesL_ (some 8) rfl rfl Try.func14 (by kernel_rfl) rfl #[.agg #[.int .i64 b0, .int .i64 b1, .int .i64 b2, .int .i64 b3, .bool b4, .int .u64 b5, .int .u64 b6, .bool b7, .int .u64 b8, .int .u64 b9, .slice A0_10 l0_10.length c0_10, .bool b11, .int .i64 b12, .int .i64 b13, .bool b14, .string b15], .int .i64 66000] rfl kA ?_; (with_reducible refine (intrusionref12_Long.calls k b0 b1 b2 b3 b4 b5 b6 b7 b8 b9 _ _ l0_10 b11 b12 b13 b14 b15 66000 true _ ?side1 ?side2 A2.out).mono ?_); (case side1 => repeat (first | exact (Kd.C_below HR0_10.out HB.out) | (with_reducible refine Kd.C_alloc ?_ _) | (with_reducible refine Kd.C_drewN ?_ _) | (with_reducible refine Kd.C_drew ?_))); (case side2 => exact HC0_10.out); rintro e w6 ⟨rfl, hb⟩; refine ⟨_, rfl, ?_⟩; replace BK478 := As (blk_below (kb BK478.out) hb); replace HB := As (below_step (kB1 HB.out GE478.out) hb); (try clear hb)) | ((with_reducible refine gate_callee (f := 10) rfl ?_); refine goesL_ (some 9) rfl rfl Try.func10 (by kernel_rfl) rfl #[] rfl kA ?_; (with_reducible refine (intrusionlaw12_lives.calls k  t480 _ A4.out).mono ?_); rintro e w7 ⟨rfl, hb⟩; refine ⟨_, rfl, ?_⟩; replace BK478 := As (blk_below (kb BK478.out) hb); replace HB := As (below_step (kB1 HB.out GE478.out) hb); (try clear hb)))
  go_ret
  exact ⟨kE, by exact kB1 HB.out GE478.out⟩
 replace c3 := Bool.eq_false_iff.mpr c3
 subst c3
 have H1 : ((ipv6_Encode.f k b0 b1 b2 b3 b4 b5 b6 b7 b8 b9 l0_10 b11 b12 b13 b14 b15).bind fun bt481 => ((intrusionref12_Encode.f k b0 b1 b2 b3 b4 b5 b6 b7 b8 b9 l0_10 b11 b12 b13 b14 b15).bind fun bt483 => (if bt481.1.toList = bt483.1.toList then (if bt481.2 = bt483.2 then ((intrusionlaw12_lives.f k).bind fun t485 => (some t485)) else (none)) else (none)))) = some r := by rw [if_neg (show ¬ (false = true) by decide)] at H; exact H
 clear H
 have H := H1
 clear H1
 replace H := Option.bind_eq_some_iff.mp H
 obtain ⟨⟨t481, t482⟩, A80, H⟩ := H
 replace H : ((intrusionref12_Encode.f k b0 b1 b2 b3 b4 b5 b6 b7 b8 b9 l0_10 b11 b12 b13 b14 b15).bind fun bt483 => (if t481.toList = bt483.1.toList then (if t482 = bt483.2 then ((intrusionlaw12_lives.f k).bind fun t485 => (some t485)) else (none)) else (none))) = some r := H
 have A8 := As A80
 clear A80
 replace H := Option.bind_eq_some_iff.mp H
 obtain ⟨⟨t483, t484⟩, A90, H⟩ := H
 replace H : (if t481.toList = t483.toList then (if t482 = t484 then ((intrusionlaw12_lives.f k).bind fun t485 => (some t485)) else (none)) else (none)) = some r := H
 have A9 := As A90
 clear A90
 by_cases c10 : t481.toList = t483.toList
 ·rw [if_pos c10] at H
  have c10b0 : (t481.toList == t483.toList) = true := beq_iff_eq.mpr c10
  have c10b1 : (t481.toList != t483.toList) = false := bne_eq_false_iff_eq.mpr c10
  clear c10
  by_cases c11 : t482 = t484
  ·rw [if_pos c11] at H
   have c11b0 : (t482 == t484) = true := beq_iff_eq.mpr c11
   have c11b1 : (t482 != t484) = false := bne_eq_false_iff_eq.mpr c11
   clear c11
   replace H := Option.bind_eq_some_iff.mp H
   obtain ⟨t485, A120, H⟩ := H
   replace H : (some t485) = some r := H
   have A12 := As A120
   clear A120
   obtain rfl := Option.some.inj H
   go_enter Try.func4, Try.ntmps4
   go_wp2_with (first | ((with_reducible refine gate_dst (N := 1) rfl ?_); refine box_event rfl (N := 1) rfl (cs := #[.int .i64 b0, .int .i64 b1, .int .i64 b2, .int .i64 b3, .bool b4, .int .u64 b5, .int .u64 b6, .bool b7, .int .u64 b8, .int .u64 b9, .slice A0_10 l0_10.length c0_10, .bool b11, .int .i64 b12, .int .i64 b13, .bool b14, .string b15]) (t := 28) kG ?_; intro gb478 hg w13 hbox hb; have BK478 := As (hbox); have GW478 := As ((by rw [hg]; exact (below_size (kB HB.out)) : w.heap.size ≤ gb478)); have GE478 := As ((by rw [hg]; exact (below_size (kB HB.out)) : w.heap.size ≤ gb478)); replace HB := As (below_step (kB HB.out) hb); clear hb hbox hg) | ((with_reducible refine gate_dst (N := 7) rfl ?_); refine wpList_load_row rfl 28 _ rfl gb478 rfl 28 _ (0, 0) _ (kb BK478.out) Try.underlying28 rfl (by kernel_rfl) ?_) | ((with_reducible refine gate_callee (f := 14) rfl ?_); refine goesL_ (some 8) rfl rfl Try.func14 (by kernel_rfl) rfl #[.agg #[.int .i64 b0, .int .i64 b1, .int .i64 b2, .int .i64 b3, .bool b4, .int .u64 b5, .int .u64 b6, .bool b7, .int .u64 b8, .int .u64 b9, .slice A0_10 l0_10.length c0_10, .bool b11, .int .i64 b12, .int .i64 b13, .bool b14, .string b15], .int .i64 66000] rfl kA ?_; (with_reducible refine (intrusionref12_Long.calls k b0 b1 b2 b3 b4 b5 b6 b7 b8 b9 _ _ l0_10 b11 b12 b13 b14 b15 66000 false _ ?side1 ?side2 A2.out).mono ?_); (case side1 => repeat (first | exact (Kd.C_below HR0_10.out HB.out) | (with_reducible refine Kd.C_alloc ?_ _) | (with_reducible refine Kd.C_drewN ?_ _) | (with_reducible refine Kd.C_drew ?_))); (case side2 => exact HC0_10.out); rintro e w14 ⟨rfl, hb⟩; refine ⟨_, rfl, ?_⟩; replace BK478 := As (blk_below (kb BK478.out) hb); replace HB := As (below_step (kB1 HB.out GE478.out) hb); (try clear hb)) | ((with_reducible refine gate_dst (N := 11) rfl ?_); refine wpList_load_row rfl 28 _ rfl gb478 rfl 28 _ (0, 0) _ (kb BK478.out) Try.underlying28 rfl (by kernel_rfl) ?_) | ((with_reducible refine gate_callee (f := 15) rfl ?_); refine goesL_ (some 12) rfl rfl Try.func15 (by kernel_rfl) rfl #[.agg #[.int .i64 b0, .int .i64 b1, .int .i64 b2, .int .i64 b3, .bool b4, .int .u64 b5, .int .u64 b6, .bool b7, .int .u64 b8, .int .u64 b9, .slice A0_10 l0_10.length c0_10, .bool b11, .int .i64 b12, .int .i64 b13, .bool b14, .string b15]] rfl kA ?_; (with_reducible refine (ipv6_Encode.calls k b0 b1 b2 b3 b4 b5 b6 b7 b8 b9 _ _ l0_10 b11 b12 b13 b14 b15 t481 t482 _ ?side1 ?side2 A8.out).mono ?_); (case side1 => repeat (first | exact (Kd.C_below HR0_10.out HB.out) | (with_reducible refine Kd.C_alloc ?_ _) | (with_reducible refine Kd.C_drewN ?_ _) | (with_reducible refine Kd.C_drew ?_))); (case side2 => exact HC0_10.out); rintro e w15 ⟨rfl, hb⟩; refine ⟨_, rfl, ?_⟩; replace BK478 := As (blk_below (kb BK478.out) hb); replace HB := As (below_step (kB1 HB.out GE478.out) hb); (try clear hb)) | ((with_reducible refine gate_dst (N := 16) rfl ?_); refine wpList_load_row rfl 28 _ rfl gb478 rfl 28 _ (0, 0) _ (kb BK478.out) Try.underlying28 rfl (by kernel_rfl) ?_) | ((with_reducible refine gate_callee (f := 16) rfl ?_); refine goesL_ (some 17) rfl rfl Try.func16 (by kernel_rfl) rfl #[.agg #[.int .i64 b0, .int .i64 b1, .int .i64 b2, .int .i64 b3, .bool b4, .int .u64 b5, .int .u64 b6, .bool b7, .int .u64 b8, .int .u64 b9, .slice A0_10 l0_10.length c0_10, .bool b11, .int .i64 b12, .int .i64 b13, .bool b14, .string b15]] rfl kA ?_; (with_reducible refine (intrusionref12_Encode.calls k b0 b1 b2 b3 b4 b5 b6 b7 b8 b9 _ _ l0_10 b11 b12 b13 b14 b15 t483 t484 _ ?side1 ?side2 A9.out).mono ?_); (case side1 => repeat (first | exact (Kd.C_below HR0_10.out HB.out) | (with_reducible refine Kd.C_alloc ?_ _) | (with_reducible refine Kd.C_drewN ?_ _) | (with_reducible refine Kd.C_drew ?_))); (case side2 => exact HC0_10.out); rintro e w16 ⟨rfl, hb⟩; refine ⟨_, rfl, ?_⟩; replace BK478 := As (blk_below (kb BK478.out) hb); replace HB := As (below_step (kB1 HB.out GE478.out) hb); (try clear hb)) | (go_at_call 10; (with_reducible refine (intrusionlaw12_lives.calls k  t485 _ A12.out).mono ?_); rintro e w17 ⟨rfl, hb⟩; replace BK478 := As (blk_below (kb BK478.out) hb); replace HB := As (below_step (kB1 HB.out GE478.out) hb); (try clear hb)))
   go_ret
   exact ⟨kE, by exact kB1 HB.out GE478.out⟩
  rw [if_neg c11] at H
  exact absurd H (by simp)
 rw [if_neg c10] at H
 exact absurd H (by simp)

end Go.Proofs.Ytljboandbjahdaa.X
-- short
