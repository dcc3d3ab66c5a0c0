/- What the functions of the translation that this claim's statement reaches compute, each proved by its walk. Written by xprint.py, a program of this claim's author, run over the kit's printer. -/
import Derived.Test.YtljboandbjahdaaX0
import Derived.Test.YtljboandbjahdaaX9
import Derived.Test.YtljboandbjahdaaX10
import Derived.Test.YtljboandbjahdaaX12
import Derived.Test.YtljboandbjahdaaX13
namespace Go.Proofs.Ytljboandbjahdaa.X
open Go.RowKit Go.Proofs.YtljboandbjahdaaW.PrintWords Go.Proofs.YtljboandbjahdaaW.PrintLast Go.Proofs.YtljboandbjahdaaW.PrintMore
attribute [local go_sem] max2_int min2_int max_two min_two max_three min_three max_four min_four   -- for this text's walks alone
set_option linter.unusedVariables false
set_option linter.unusedSimpArgs false

/-! ### intrusionlaw12_Ipv6Parts: function 9 -/
def intrusionlaw12_Ipv6Parts.l0 : Nat → Int → Int → List (S28) → ByteArray → Int → Int → Int → Int → Int → Bool → Int → Int → Bool → Int → Int → List (S60) → Bool → Int → Int → Bool → ByteArray → Option (Bool)
 | 0, _, _, _, _, _, _, _, _, _, _, _, _, _, _, _, _, _, _, _, _, _ => none
 | k + 1, x1, x2, x7, x9, x10, b0, b1, b2, b3, b4, b5, b6, b7, b8, b9, b10, b11, b12, b13, b14, b15 => if x10 < (x7.length : Int) then (if 0 ≤ x10 then ((ipv6_Encode.f k ((rd_T28 x7 x10).f0) ((rd_T28 x7 x10).f1) ((rd_T28 x7 x10).f2) ((rd_T28 x7 x10).f3) ((rd_T28 x7 x10).f4.f0) ((rd_T28 x7 x10).f4.f1) ((rd_T28 x7 x10).f4.f2) ((rd_T28 x7 x10).f5.f0) ((rd_T28 x7 x10).f5.f1) ((rd_T28 x7 x10).f5.f2) ((rd_T28 x7 x10).f6) ((rd_T28 x7 x10).f7) ((rd_T28 x7 x10).f8) ((rd_T28 x7 x10).f9) ((rd_T28 x7 x10).f10) ((rd_T28 x7 x10).f11)).bind fun bt644 => (if bt644.2 = 0 then (if ((rd_T28 x7 x10).f7 = true) then (if ((rd_T28 x7 x10).f8) = x2 then (if ((rd_T28 x7 x10).f9) = (x9.size : Int) then (if (((rd_T28 x7 x10).f10) != (decide ((wrap64 (x10 + 1)) < (x7.length : Int)))) = true then (none) else (if (((rd_T28 x7 x10).f11).size : Int) > x1 then (none) else (if (wrap64 (x10 + 1)) < (x7.length : Int) then (if (((rd_T28 x7 x10).f11).size : Int) = x1 then (if (((rd_T28 x7 x10).f6).length : Int) = (b10.length : Int) then (if x9.size + ((rd_T28 x7 x10).f11).size ≤ 9223372036854775807 then (intrusionlaw12_Ipv6Parts.l0 k x1 x2 x7 (x9 ++ ((rd_T28 x7 x10).f11)) (wrap64 (x10 + 1)) b0 b1 b2 b3 b4 b5 b6 b7 b8 b9 b10 b11 b12 b13 b14 b15) else (none)) else (none)) else (none)) else (if (((rd_T28 x7 x10).f6).length : Int) = (b10.length : Int) then (if x9.size + ((rd_T28 x7 x10).f11).size ≤ 9223372036854775807 then (intrusionlaw12_Ipv6Parts.l0 k x1 x2 x7 (x9 ++ ((rd_T28 x7 x10).f11)) (wrap64 (x10 + 1)) b0 b1 b2 b3 b4 b5 b6 b7 b8 b9 b10 b11 b12 b13 b14 b15) else (none)) else (none))))) else (none)) else (none)) else (none)) else (none))) else (none)) else (if x9.toList = b15.toList then (some (decide ((x7.length : Int) > 0))) else (none))
def intrusionlaw12_Ipv6Parts.f (k : Nat) (d0 : Int) (d1 : Int) (d2 : Int) (d3 : Int) (d4 : Bool) (d5 : Int) (d6 : Int) (d7 : Bool) (d8 : Int) (d9 : Int) (l0_10 : List (S60)) (d11 : Bool) (d12 : Int) (d13 : Int) (d14 : Bool) (d15 : ByteArray) (a1 : Int) (a2 : Int) : Option (Bool) := (intrusionlaw12_lives.f k).bind fun t636 => (if t636 = true then ((intrusionref12_Long.f k d0 d1 d2 d3 d4 d5 d6 d7 d8 d9 l0_10 d11 d12 d13 d14 d15 2000).bind fun t637 => (if t637 = true then (some true) else ((ipv6_Split.f k d0 d1 d2 d3 d4 d5 d6 d7 d8 d9 l0_10 d11 d12 d13 d14 d15 a1 a2).bind fun bt638 => (if bt638.2 = 0 then (intrusionlaw12_Ipv6Parts.l0 k a1 a2 bt638.1 (⟨#[]⟩ : ByteArray) 0 d0 d1 d2 d3 d4 d5 d6 d7 d8 d9 l0_10 d11 d12 d13 d14 d15) else (some ((bt638.1.length : Int) == 0)))))) else (none))
theorem intrusionlaw12_Ipv6Parts.mono_l : ∀ k, (∀ y0 y1 y2 y3 y4 y5 y6 y7 y8 y9 y10 y11 y12 y13 y14 y15 y16 y17 y18 y19 y20, LeO (intrusionlaw12_Ipv6Parts.l0 k y0 y1 y2 y3 y4 y5 y6 y7 y8 y9 y10 y11 y12 y13 y14 y15 y16 y17 y18 y19 y20) (intrusionlaw12_Ipv6Parts.l0 (k + 1) y0 y1 y2 y3 y4 y5 y6 y7 y8 y9 y10 y11 y12 y13 y14 y15 y16 y17 y18 y19 y20))
 | 0 => fun _ _ _ _ _ _ _ _ _ _ _ _ _ _ _ _ _ _ _ _ _ r h => by simp [intrusionlaw12_Ipv6Parts.l0] at h
 | k + 1 => by
  have ih0 := intrusionlaw12_Ipv6Parts.mono_l k
  intro y0 y1 y2 y3 y4 y5 y6 y7 y8 y9 y10 y11 y12 y13 y14 y15 y16 y17 y18 y19 y20
  unfold intrusionlaw12_Ipv6Parts.l0
  repeat' first | with_reducible first | apply ih0 | apply intrusionlaw12_lives.mono | apply intrusionref12_Long.mono | apply ipv6_Encode.mono | apply ipv6_Split.mono | apply LeO.refl | apply LeO.none | refine LeO.ite ?_ ?_ | refine LeO.bind ?_ (fun _ => ?_)
theorem intrusionlaw12_Ipv6Parts.mono : ∀ a0 a1 a2 a3 a4 a5 a6 a7 a8 a9 a10 a11 a12 a13 a14 a15 a16 a17 k, LeO (intrusionlaw12_Ipv6Parts.f k a0 a1 a2 a3 a4 a5 a6 a7 a8 a9 a10 a11 a12 a13 a14 a15 a16 a17) (intrusionlaw12_Ipv6Parts.f (k + 1) a0 a1 a2 a3 a4 a5 a6 a7 a8 a9 a10 a11 a12 a13 a14 a15 a16 a17) := by
 intro a0 a1 a2 a3 a4 a5 a6 a7 a8 a9 a10 a11 a12 a13 a14 a15 a16 a17 k
 have ih0 := intrusionlaw12_Ipv6Parts.mono_l k
 unfold intrusionlaw12_Ipv6Parts.f
 repeat' first | with_reducible first | apply ih0 | apply intrusionlaw12_lives.mono | apply intrusionref12_Long.mono | apply ipv6_Encode.mono | apply ipv6_Split.mono | apply LeO.refl | apply LeO.none | refine LeO.ite ?_ ?_ | refine LeO.bind ?_ (fun _ => ?_)
set_option maxHeartbeats 8000000 in
set_option maxRecDepth 100000 in
theorem intrusionlaw12_Ipv6Parts.calls (k : Nat) (d0 : Int) (d1 : Int) (d2 : Int) (d3 : Int) (d4 : Bool) (d5 : Int) (d6 : Int) (d7 : Bool) (d8 : Int) (d9 : Int) (A0_10 : Option Addr) (c0_10 : Nat) (l0_10 : List (S60)) (d11 : Bool) (d12 : Int) (d13 : Int) (d14 : Bool) (d15 : ByteArray) (a1 : Int) (a2 : Int) (r : Bool) (w : World) (hr0_10 : Kd.C k60 w A0_10 l0_10.length l0_10) (hc0_10 : l0_10.length ≤ c0_10) (h : intrusionlaw12_Ipv6Parts.f k d0 d1 d2 d3 d4 d5 d6 d7 d8 d9 l0_10 d11 d12 d13 d14 d15 a1 a2 = some r) :
  Calls Try.prog 9 #[.agg #[.int .i64 d0, .int .i64 d1, .int .i64 d2, .int .i64 d3, .bool d4, .int .u64 d5, .int .u64 d6, .bool d7, .int .u64 d8, .int .u64 d9, .slice A0_10 l0_10.length c0_10, .bool d11, .int .i64 d12, .int .i64 d13, .bool d14, .string d15], .int .i64 a1, .int .i64 a2] w fun e w' => e = .returned (.bool r) ∧ Below w.heap.size w w' := by
 have hu28 := Try.underlying28
 have HR0_10 := As hr0_10
 have HC0_10 := As hc0_10
 clear hr0_10 hc0_10
 have HB := As (Below.refl w.heap.size w)
 have H : ((intrusionlaw12_lives.f k).bind fun t636 => (if t636 = true then ((intrusionref12_Long.f k d0 d1 d2 d3 d4 d5 d6 d7 d8 d9 l0_10 d11 d12 d13 d14 d15 2000).bind fun t637 => (if t637 = true then (some true) else ((ipv6_Split.f k d0 d1 d2 d3 d4 d5 d6 d7 d8 d9 l0_10 d11 d12 d13 d14 d15 a1 a2).bind fun bt638 => (if bt638.2 = 0 then (intrusionlaw12_Ipv6Parts.l0 k a1 a2 bt638.1 (⟨#[]⟩ : ByteArray) 0 d0 d1 d2 d3 d4 d5 d6 d7 d8 d9 l0_10 d11 d12 d13 d14 d15) else (some ((bt638.1.length : Int) == 0)))))) else (none))) = some r := h
 clear h
 replace H := Option.bind_eq_some_iff.mp H
 obtain ⟨t636, A40, H⟩ := H
 replace H : (if t636 = true then ((intrusionref12_Long.f k d0 d1 d2 d3 d4 d5 d6 d7 d8 d9 l0_10 d11 d12 d13 d14 d15 2000).bind fun t637 => (if t637 = true then (some true) else ((ipv6_Split.f k d0 d1 d2 d3 d4 d5 d6 d7 d8 d9 l0_10 d11 d12 d13 d14 d15 a1 a2).bind fun bt638 => (if bt638.2 = 0 then (intrusionlaw12_Ipv6Parts.l0 k a1 a2 bt638.1 (⟨#[]⟩ : ByteArray) 0 d0 d1 d2 d3 d4 d5 d6 d7 d8 d9 l0_10 d11 d12 d13 d14 d15) else (some ((bt638.1.length : Int) == 0)))))) else (none)) = some r := H
 have A4 := As A40
 clear A40
 by_cases c5 : t636 = true
 ·subst c5
  have H1 : ((intrusionref12_Long.f k d0 d1 d2 d3 d4 d5 d6 d7 d8 d9 l0_10 d11 d12 d13 d14 d15 2000).bind fun t637 => (if t637 = true then (some true) else ((ipv6_Split.f k d0 d1 d2 d3 d4 d5 d6 d7 d8 d9 l0_10 d11 d12 d13 d14 d15 a1 a2).bind fun bt638 => (if bt638.2 = 0 then (intrusionlaw12_Ipv6Parts.l0 k a1 a2 bt638.1 (⟨#[]⟩ : ByteArray) 0 d0 d1 d2 d3 d4 d5 d6 d7 d8 d9 l0_10 d11 d12 d13 d14 d15) else (some ((bt638.1.length : Int) == 0)))))) = some r := by rw [if_pos rfl] at H; exact H
  clear H
  have H := H1
  clear H1
  replace H := Option.bind_eq_some_iff.mp H
  obtain ⟨t637, A60, H⟩ := H
  replace H : (if t637 = true then (some true) else ((ipv6_Split.f k d0 d1 d2 d3 d4 d5 d6 d7 d8 d9 l0_10 d11 d12 d13 d14 d15 a1 a2).bind fun bt638 => (if bt638.2 = 0 then (intrusionlaw12_Ipv6Parts.l0 k a1 a2 bt638.1 (⟨#[]⟩ : ByteArray) 0 d0 d1 d2 d3 d4 d5 d6 d7 d8 d9 l0_10 d11 d12 d13 d14 d15) else (some ((bt638.1.length : Int) == 0))))) = some r := H
  have A6 := As A60
  clear A60
  by_cases c7 : t637 = true
  ·subst c7
   have H1 : (some true) = some r := by rw [if_pos rfl] at H; exact H
   clear H
   have H := H1
   clear H1
   obtain rfl := Option.some.inj H
   go_enter Try.func9, Try.ntmps9
   go_wp2_with (first | ((with_reducible refine gate_dst (N := 3) rfl ?_); (try (refine gate_guard (by rfl) ?_; dsimp only)); refine box_event rfl (N := 3) rfl (cs := #[.int .i64 d0, .int .i64 d1, .int .i64 d2, .int .i64 d3, .bool d4, .int .u64 d5, .int .u64 d6, .bool d7, .int .u64 d8, .int .u64 d9, .slice A0_10 l0_10.length c0_10, .bool d11, .int .i64 d12, .int .i64 d13, .bool d14, .string d15]) (t := 28) kG ?_; intro gb635 hg w8 hbox hb; have BK635 := As (hbox); have GW635 := As ((by rw [hg]; exact (below_size (kB HB.out)) : w.heap.size ≤ gb635)); have GE635 := As ((by rw [hg]; exact (below_size (kB HB.out)) : w.heap.size ≤ gb635)); replace HB := As (below_step (kB HB.out) hb); clear hb hbox hg) | ((with_reducible refine gate_callee (f := 10) rfl ?_); refine goesL_ (some 14) rfl rfl Try.func10 (by kernel_rfl) rfl #[] rfl kA ?_; (with_reducible refine (intrusionlaw12_lives.calls k  true _ A4.out).mono ?_); rintro e w9 ⟨rfl, hb⟩; refine ⟨_, rfl, ?_⟩; replace BK635 := As (blk_below (kb BK635.out) hb); replace HB := As (below_step (kB1 HB.out GE635.out) hb); (try clear hb)) | ((with_reducible refine gate_dst (N := 16) rfl ?_); (try (refine gate_guard (by rfl) ?_; dsimp only)); refine wpList_load_row rfl 28 _ rfl gb635 rfl 28 _ (0, 0) _ (kb BK635.out) Try.underlying28 rfl (by kernel_rfl) ?_) | ((with_reducible refine gate_callee (f := 14) rfl ?_); refine goesL_ (some 17) rfl rfl Try.func14 (by kernel_rfl) rfl #[.agg #[.int .i64 d0, .int .i64 d1, .int .i64 d2, .int .i64 d3, .bool d4, .int .u64 d5, .int .u64 d6, .bool d7, .int .u64 d8, .int .u64 d9, .slice A0_10 l0_10.length c0_10, .bool d11, .int .i64 d12, .int .i64 d13, .bool d14, .string d15], .int .i64 2000] rfl kA ?_; (with_reducible refine (intrusionref12_Long.calls k d0 d1 d2 d3 d4 d5 d6 d7 d8 d9 _ _ l0_10 d11 d12 d13 d14 d15 2000 true _ ?side1 ?side2 A6.out).mono ?_); (case side1 => repeat (first | exact (Kd.C_below HR0_10.out HB.out) | (with_reducible refine Kd.C_alloc ?_ _) | (with_reducible refine Kd.C_drewN ?_ _) | (with_reducible refine Kd.C_drew ?_))); (case side2 => exact HC0_10.out); rintro e w10 ⟨rfl, hb⟩; refine ⟨_, rfl, ?_⟩; replace BK635 := As (blk_below (kb BK635.out) hb); replace HB := As (below_step (kB1 HB.out GE635.out) hb); (try clear hb)))
   go_ret
   exact ⟨kE, by exact kB1 HB.out GE635.out⟩
  replace c7 := Bool.eq_false_iff.mpr c7
  subst c7
  have H1 : ((ipv6_Split.f k d0 d1 d2 d3 d4 d5 d6 d7 d8 d9 l0_10 d11 d12 d13 d14 d15 a1 a2).bind fun bt638 => (if bt638.2 = 0 then (intrusionlaw12_Ipv6Parts.l0 k a1 a2 bt638.1 (⟨#[]⟩ : ByteArray) 0 d0 d1 d2 d3 d4 d5 d6 d7 d8 d9 l0_10 d11 d12 d13 d14 d15) else (some ((bt638.1.length : Int) == 0)))) = some r := by rw [if_neg (show ¬ (false = true) by decide)] at H; exact H
  clear H
  have H := H1
  clear H1
  replace H := Option.bind_eq_some_iff.mp H
  obtain ⟨⟨t638, t641⟩, A110, H⟩ := H
  replace H : (if t641 = 0 then (intrusionlaw12_Ipv6Parts.l0 k a1 a2 t638 (⟨#[]⟩ : ByteArray) 0 d0 d1 d2 d3 d4 d5 d6 d7 d8 d9 l0_10 d11 d12 d13 d14 d15) else (some ((t638.length : Int) == 0))) = some r := H
  have A11 := As A110
  clear A110
  by_cases c12 : t641 = 0
  ·rw [if_pos c12] at H
   have c12b0 : (t641 == 0) = true := beq_iff_eq.mpr c12
   have c12b1 : (t641 != 0) = false := bne_eq_false_iff_eq.mpr c12
   clear c12
   have H' := As H
   clear H
   go_enter Try.func9, Try.ntmps9
   go_wp2_with (first | ((with_reducible refine gate_dst (N := 3) rfl ?_); (try (refine gate_guard (by rfl) ?_; dsimp only)); refine box_event rfl (N := 3) rfl (cs := #[.int .i64 d0, .int .i64 d1, .int .i64 d2, .int .i64 d3, .bool d4, .int .u64 d5, .int .u64 d6, .bool d7, .int .u64 d8, .int .u64 d9, .slice A0_10 l0_10.length c0_10, .bool d11, .int .i64 d12, .int .i64 d13, .bool d14, .string d15]) (t := 28) kG ?_; intro gb635 hg w13 hbox hb; have BK635 := As (hbox); have GW635 := As ((by rw [hg]; exact (below_size (kB HB.out)) : w.heap.size ≤ gb635)); have GE635 := As ((by rw [hg]; exact (below_size (kB HB.out)) : w.heap.size ≤ gb635)); replace HB := As (below_step (kB HB.out) hb); clear hb hbox hg) | ((with_reducible refine gate_callee (f := 10) rfl ?_); refine goesL_ (some 14) rfl rfl Try.func10 (by kernel_rfl) rfl #[] rfl kA ?_; (with_reducible refine (intrusionlaw12_lives.calls k  true _ A4.out).mono ?_); rintro e w14 ⟨rfl, hb⟩; refine ⟨_, rfl, ?_⟩; replace BK635 := As (blk_below (kb BK635.out) hb); replace HB := As (below_step (kB1 HB.out GE635.out) hb); (try clear hb)) | ((with_reducible refine gate_dst (N := 16) rfl ?_); (try (refine gate_guard (by rfl) ?_; dsimp only)); refine wpList_load_row rfl 28 _ rfl gb635 rfl 28 _ (0, 0) _ (kb BK635.out) Try.underlying28 rfl (by kernel_rfl) ?_) | ((with_reducible refine gate_callee (f := 14) rfl ?_); refine goesL_ (some 17) rfl rfl Try.func14 (by kernel_rfl) rfl #[.agg #[.int .i64 d0, .int .i64 d1, .int .i64 d2, .int .i64 d3, .bool d4, .int .u64 d5, .int .u64 d6, .bool d7, .int .u64 d8, .int .u64 d9, .slice A0_10 l0_10.length c0_10, .bool d11, .int .i64 d12, .int .i64 d13, .bool d14, .string d15], .int .i64 2000] rfl kA ?_; (with_reducible refine (intrusionref12_Long.calls k d0 d1 d2 d3 d4 d5 d6 d7 d8 d9 _ _ l0_10 d11 d12 d13 d14 d15 2000 false _ ?side1 ?side2 A6.out).mono ?_); (case side1 => repeat (first | exact (Kd.C_below HR0_10.out HB.out) | (with_reducible refine Kd.C_alloc ?_ _) | (with_reducible refine Kd.C_drewN ?_ _) | (with_reducible refine Kd.C_drew ?_))); (case side2 => exact HC0_10.out); rintro e w15 ⟨rfl, hb⟩; refine ⟨_, rfl, ?_⟩; replace BK635 := As (blk_below (kb BK635.out) hb); replace HB := As (below_step (kB1 HB.out GE635.out) hb); (try clear hb)) | ((with_reducible refine gate_dst (N := 19) rfl ?_); (try (refine gate_guard (by rfl) ?_; dsimp only)); refine wpList_load_row rfl 28 _ rfl gb635 rfl 28 _ (0, 0) _ (kb BK635.out) Try.underlying28 rfl (by kernel_rfl) ?_) | ((with_reducible refine gate_callee (f := 17) rfl ?_); refine goesL_ (some 22) rfl rfl Try.func17 (by kernel_rfl) rfl #[.agg #[.int .i64 d0, .int .i64 d1, .int .i64 d2, .int .i64 d3, .bool d4, .int .u64 d5, .int .u64 d6, .bool d7, .int .u64 d8, .int .u64 d9, .slice A0_10 l0_10.length c0_10, .bool d11, .int .i64 d12, .int .i64 d13, .bool d14, .string d15], .int .i64 a1, .int .i64 a2] rfl kA ?_; (with_reducible refine (ipv6_Split.calls k d0 d1 d2 d3 d4 d5 d6 d7 d8 d9 _ _ l0_10 d11 d12 d13 d14 d15 a1 a2 t638 t641 _ ?side1 ?side2 A11.out).mono ?_); (case side1 => repeat (first | exact (Kd.C_below HR0_10.out HB.out) | (with_reducible refine Kd.C_alloc ?_ _) | (with_reducible refine Kd.C_drewN ?_ _) | (with_reducible refine Kd.C_drew ?_))); (case side2 => exact HC0_10.out); rintro e w16 ⟨v639, rfl, ho0, hb⟩; refine ⟨_, rfl, ?_⟩; have HO640 := As (Kd.S_lower (Kd.S_newB ho0 (kb BK635.out)) (below_size (kB1 HB.out GE635.out))); replace BK635 := As (blk_below (kb BK635.out) hb); replace HB := As (below_step (kB1 HB.out GE635.out) hb); (try clear hb); (try clear ho0)))
   go_loopg [9, 10] k (fun kq v9 v10 w' => ∃ (x9_1 : ByteArray) (x10_1 : Int), v9 = .string x9_1 ∧ v10 = .int .i64 x10_1 ∧ Aside0 (intrusionlaw12_Ipv6Parts.l0 kq a1 a2 t638 x9_1 x10_1 d0 d1 d2 d3 d4 d5 d6 d7 d8 d9 l0_10 d11 d12 d13 d14 d15 = some r) ∧ Aside0 (kq ≤ k) ∧ Aside0 (Kd.S k28 28 w' w.heap.size (fun k_ => k_ ≠ gb635) v639 t638) ∧ Aside0 (w'.heap[gb635]? = some (.cells #[.int .i64 d0, .int .i64 d1, .int .i64 d2, .int .i64 d3, .bool d4, .int .u64 d5, .int .u64 d6, .bool d7, .int .u64 d8, .int .u64 d9, (.slice A0_10 l0_10.length c0_10), .bool d11, .int .i64 d12, .int .i64 d13, .bool d14, .string d15] 28 (0, 0))) ∧ Aside0 (Below w.heap.size w w'))
   case atStart => exact ⟨((⟨#[]⟩ : ByteArray)), (0), kS, kS, H', ⟨Nat.le_refl _⟩, ⟨by (with_reducible repeat (first | apply Kd.S_alloc | apply Kd.S_drewN | apply Kd.S_drew)); exact Kd.S_mono HO640.out (fun _ hk => hk.2)⟩, ⟨kb BK635.out⟩, ⟨kB1 HB.out GE635.out⟩⟩
   clear H'
   try clear c5
   try clear c7
   try clear c12
   try clear c12b0
   try clear c12b1
   obtain ⟨x9_1, x10_1, rfl, rfl, HA, HK1, HO_7, BK635, HB⟩ := hrel
   cases gk with
   | zero => exact absurd HA.out (by simp [intrusionlaw12_Ipv6Parts.l0])
   | succ k1 =>
    have H := HA.out
    clear HA
    simp only [intrusionlaw12_Ipv6Parts.l0] at H
    by_cases c17 : x10_1 < (t638.length : Int)
    ·rw [if_pos c17] at H
     have c17b0 : decide (x10_1 < (t638.length : Int)) = true := decide_eq_true c17
     clear c17
     by_cases c18 : 0 ≤ x10_1
     ·rw [if_pos c18] at H
      have c18b0 : decide (0 ≤ x10_1) = true := decide_eq_true c18
      clear c18
      replace H := Option.bind_eq_some_iff.mp H
      obtain ⟨⟨t644, t645⟩, A190, H⟩ := H
      replace H : (if t645 = 0 then (if ((rd_T28 t638 x10_1).f7 = true) then (if ((rd_T28 t638 x10_1).f8) = a2 then (if ((rd_T28 t638 x10_1).f9) = (x9_1.size : Int) then (if (((rd_T28 t638 x10_1).f10) != (decide ((wrap64 (x10_1 + 1)) < (t638.length : Int)))) = true then (none) else (if (((rd_T28 t638 x10_1).f11).size : Int) > a1 then (none) else (if (wrap64 (x10_1 + 1)) < (t638.length : Int) then (if (((rd_T28 t638 x10_1).f11).size : Int) = a1 then (if (((rd_T28 t638 x10_1).f6).length : Int) = (l0_10.length : Int) then (if x9_1.size + ((rd_T28 t638 x10_1).f11).size ≤ 9223372036854775807 then (intrusionlaw12_Ipv6Parts.l0 k1 a1 a2 t638 (x9_1 ++ ((rd_T28 t638 x10_1).f11)) (wrap64 (x10_1 + 1)) d0 d1 d2 d3 d4 d5 d6 d7 d8 d9 l0_10 d11 d12 d13 d14 d15) else (none)) else (none)) else (none)) else (if (((rd_T28 t638 x10_1).f6).length : Int) = (l0_10.length : Int) then (if x9_1.size + ((rd_T28 t638 x10_1).f11).size ≤ 9223372036854775807 then (intrusionlaw12_Ipv6Parts.l0 k1 a1 a2 t638 (x9_1 ++ ((rd_T28 t638 x10_1).f11)) (wrap64 (x10_1 + 1)) d0 d1 d2 d3 d4 d5 d6 d7 d8 d9 l0_10 d11 d12 d13 d14 d15) else (none)) else (none))))) else (none)) else (none)) else (none)) else (none)) = some r := H
      have A19 := As A190
      clear A190
      by_cases c20 : t645 = 0
      ·rw [if_pos c20] at H
       have c20b0 : (t645 == 0) = true := beq_iff_eq.mpr c20
       have c20b1 : (t645 != 0) = false := bne_eq_false_iff_eq.mpr c20
       clear c20
       obtain ⟨bq21, hbq21⟩ : ∃ b_ : Bool, b_ = ((rd_T28 t638 x10_1).f7) := ⟨_, rfl⟩
       replace H : (if (bq21 = true) then (if ((rd_T28 t638 x10_1).f8) = a2 then (if ((rd_T28 t638 x10_1).f9) = (x9_1.size : Int) then (if (((rd_T28 t638 x10_1).f10) != (decide ((wrap64 (x10_1 + 1)) < (t638.length : Int)))) = true then (none) else (if (((rd_T28 t638 x10_1).f11).size : Int) > a1 then (none) else (if (wrap64 (x10_1 + 1)) < (t638.length : Int) then (if (((rd_T28 t638 x10_1).f11).size : Int) = a1 then (if (((rd_T28 t638 x10_1).f6).length : Int) = (l0_10.length : Int) then (if x9_1.size + ((rd_T28 t638 x10_1).f11).size ≤ 9223372036854775807 then (intrusionlaw12_Ipv6Parts.l0 k1 a1 a2 t638 (x9_1 ++ ((rd_T28 t638 x10_1).f11)) (wrap64 (x10_1 + 1)) d0 d1 d2 d3 d4 d5 d6 d7 d8 d9 l0_10 d11 d12 d13 d14 d15) else (none)) else (none)) else (none)) else (if (((rd_T28 t638 x10_1).f6).length : Int) = (l0_10.length : Int) then (if x9_1.size + ((rd_T28 t638 x10_1).f11).size ≤ 9223372036854775807 then (intrusionlaw12_Ipv6Parts.l0 k1 a1 a2 t638 (x9_1 ++ ((rd_T28 t638 x10_1).f11)) (wrap64 (x10_1 + 1)) d0 d1 d2 d3 d4 d5 d6 d7 d8 d9 l0_10 d11 d12 d13 d14 d15) else (none)) else (none))))) else (none)) else (none)) else (none)) = some r := by rw [← hbq21] at H; exact H
       have Nbq21 := As hbq21
       clear hbq21
       by_cases c22 : (bq21 = true)
       ·subst c22
        have H1 : (if ((rd_T28 t638 x10_1).f8) = a2 then (if ((rd_T28 t638 x10_1).f9) = (x9_1.size : Int) then (if (((rd_T28 t638 x10_1).f10) != (decide ((wrap64 (x10_1 + 1)) < (t638.length : Int)))) = true then (none) else (if (((rd_T28 t638 x10_1).f11).size : Int) > a1 then (none) else (if (wrap64 (x10_1 + 1)) < (t638.length : Int) then (if (((rd_T28 t638 x10_1).f11).size : Int) = a1 then (if (((rd_T28 t638 x10_1).f6).length : Int) = (l0_10.length : Int) then (if x9_1.size + ((rd_T28 t638 x10_1).f11).size ≤ 9223372036854775807 then (intrusionlaw12_Ipv6Parts.l0 k1 a1 a2 t638 (x9_1 ++ ((rd_T28 t638 x10_1).f11)) (wrap64 (x10_1 + 1)) d0 d1 d2 d3 d4 d5 d6 d7 d8 d9 l0_10 d11 d12 d13 d14 d15) else (none)) else (none)) else (none)) else (if (((rd_T28 t638 x10_1).f6).length : Int) = (l0_10.length : Int) then (if x9_1.size + ((rd_T28 t638 x10_1).f11).size ≤ 9223372036854775807 then (intrusionlaw12_Ipv6Parts.l0 k1 a1 a2 t638 (x9_1 ++ ((rd_T28 t638 x10_1).f11)) (wrap64 (x10_1 + 1)) d0 d1 d2 d3 d4 d5 d6 d7 d8 d9 l0_10 d11 d12 d13 d14 d15) else (none)) else (none))))) else (none)) else (none)) = some r := by rw [if_pos rfl] at H; exact H
        clear H
        have H := H1
        clear H1
        by_cases c23 : ((rd_T28 t638 x10_1).f8) = a2
        ·rw [if_pos c23] at H
         have c23b0 : (((rd_T28 t638 x10_1).f8) == a2) = true := beq_iff_eq.mpr c23
         have c23b1 : (((rd_T28 t638 x10_1).f8) != a2) = false := bne_eq_false_iff_eq.mpr c23
         clear c23
         by_cases c24 : ((rd_T28 t638 x10_1).f9) = (x9_1.size : Int)
         ·rw [if_pos c24] at H
          have c24b0 : (((rd_T28 t638 x10_1).f9) == (x9_1.size : Int)) = true := beq_iff_eq.mpr c24
          have c24b1 : (((rd_T28 t638 x10_1).f9) != (x9_1.size : Int)) = false := bne_eq_false_iff_eq.mpr c24
          clear c24
          by_cases c25 : (((rd_T28 t638 x10_1).f10) != (decide ((wrap64 (x10_1 + 1)) < (t638.length : Int)))) = true
          ·rw [if_pos c25] at H
           exact absurd H (by simp)
          rw [if_neg c25] at H
          have c25b0 : (((rd_T28 t638 x10_1).f10) != (decide ((wrap64 (x10_1 + 1)) < (t638.length : Int)))) = false := by simpa using c25
          (try (have c25b1 : decide (((rd_T28 t638 x10_1).f10) = (decide ((wrap64 (x10_1 + 1)) < (t638.length : Int)))) = true := by simpa using c25))
          (try (have c25b2 : (((rd_T28 t638 x10_1).f10) == (decide ((wrap64 (x10_1 + 1)) < (t638.length : Int)))) = true := by simpa using c25))
          clear c25
          by_cases c26 : (((rd_T28 t638 x10_1).f11).size : Int) > a1
          ·rw [if_pos c26] at H
           exact absurd H (by simp)
          rw [if_neg c26] at H
          have c26b0 : decide (a1 < (((rd_T28 t638 x10_1).f11).size : Int)) = false := decide_eq_false c26
          clear c26
          by_cases c27 : (wrap64 (x10_1 + 1)) < (t638.length : Int)
          ·rw [if_pos c27] at H
           have c27b0 : decide ((wrap64 (x10_1 + 1)) < (t638.length : Int)) = true := decide_eq_true c27
           have c27x : (((rd_T28 t638 x10_1).f10) != true) = false := by simpa only [c27b0] using c25b0
           have c27y : (!((rd_T28 t638 x10_1).f10)) = false := by simpa using c27x
           clear c27
           by_cases c28 : (((rd_T28 t638 x10_1).f11).size : Int) = a1
           ·rw [if_pos c28] at H
            have c28b0 : ((((rd_T28 t638 x10_1).f11).size : Int) == a1) = true := beq_iff_eq.mpr c28
            have c28b1 : ((((rd_T28 t638 x10_1).f11).size : Int) != a1) = false := bne_eq_false_iff_eq.mpr c28
            clear c28
            by_cases c29 : (((rd_T28 t638 x10_1).f6).length : Int) = (l0_10.length : Int)
            ·rw [if_pos c29] at H
             have c29b0 : ((((rd_T28 t638 x10_1).f6).length : Int) == (l0_10.length : Int)) = true := beq_iff_eq.mpr c29
             have c29b1 : ((((rd_T28 t638 x10_1).f6).length : Int) != (l0_10.length : Int)) = false := bne_eq_false_iff_eq.mpr c29
             have c29b2 : (((rd_T28 t638 x10_1).f6).length == l0_10.length) = true := by first | simpa using c29 | (simp at c29 ⊢; omega)
             clear c29
             by_cases c30 : x9_1.size + ((rd_T28 t638 x10_1).f11).size ≤ 9223372036854775807
             ·rw [if_pos c30] at H
              have c30b0 := eq_true c30
              have c30b1 : decide (x9_1.size + ((rd_T28 t638 x10_1).f11).size ≤ 9223372036854775807) = true := decide_eq_true c30
              try have c30b2 : (9223372036854775807 < x9_1.size + ((rd_T28 t638 x10_1).f11).size) = False := eq_false (Nat.not_lt.2 c30)
              have H' := As H
              clear H
              obtain ⟨Ao31, co31, eo31⟩ := Kd.S_slice HO_7.out
              subst eo31
              have p642 : 0 ≤ (x10_1 : Int) := of_decide_eq_true (by first | (with_reducible assumption) | assumption)
              have q642 : x10_1 < (t638.length : Int) := of_decide_eq_true (by first | (with_reducible assumption) | assumption)
              obtain ⟨ad642, A642_10, c642_10, e642, hx642_0, hx642_1, hx642_2, hx642_3, hx642_4, hx642_5, hx642_6, hx642_7, hx642_8, hx642_9, hx642_10, hx642_11, hx642_12, hx642_13, hx642_14, hx642_15, hl642_10, hi642_10⟩ := at_T28 (Kd.S_reads' HO_7.out).2.2 x10_1 p642 q642
              (try rw [← Nbq21.out] at hx642_4)
              (try rw [← Nbq21.out] at hx642_7)
              (try rw [← Nbq21.out] at hx642_11)
              (try rw [← Nbq21.out] at hx642_14)
              cases e642
              obtain ⟨ce642, hce642, hMe642, hcc642⟩ := Kd.S_get HO_7.out z28 x10_1 p642 (by first | exact q642 | exact of_decide_eq_true (by first | (with_reducible assumption) | assumption) | (have e_ := (Kd.S_reads' HO_7.out).1; omega))
              obtain ⟨ve642_10, rfl, ge642_10⟩ := k28_openM hMe642
              have hv642_10 := hcc642 10 _ rfl
              rw [add_field _ _ 10 (by omega)] at hv642_10
              replace hv642_10 := Option.some.inj (hv642_10.symm.trans hx642_10)
              rw [hv642_10] at ge642_10
              have HL642_10 := As (show Kd.R k60 60 _ _ _ _ ((rd_T28 t638 x10_1).f6) from ge642_10)
              clear hv642_10 ge642_10
              clear hcc642 hce642
              have HR642_10 := As hi642_10
              have HC642_10 := As hl642_10
              clear hi642_10 hl642_10
              replace p642 := eq_true p642
              replace q642 := eq_true q642
              go_wp2_with (first | ((with_reducible refine gate_dst (N := 11) rfl ?_); (try (refine gate_guard (by rfl) ?_; dsimp only)); refine box_event rfl (N := 11) rfl (cs := #[.int .i64 0, .int .i64 0, .int .i64 0, .int .i64 0, .bool false, .int .u64 0, .int .u64 0, .bool false, .int .u64 0, .int .u64 0, .slice none 0 0, .bool false, .int .i64 0, .int .i64 0, .bool false, .string (⟨#[]⟩ : ByteArray)]) (t := 28) kG ?_; intro gb643 hg w32 hbox hb; replace HO_7 := As (Kd.S_below (Kd.S_elderB (by (with_reducible repeat (first | apply Kd.S_alloc | apply Kd.S_drewN | apply Kd.S_drew)); exact HO_7.out) gb643 (Nat.le_of_eq hg.symm)) hb); replace HL642_10 := As (Kd.R_below (kR HL642_10.out) hb); replace HR642_10 := As (Kd.C_below (by repeat (first | (with_reducible exact HR642_10.out) | (with_reducible refine Kd.C_alloc ?_ _) | (with_reducible refine Kd.C_drewN ?_ _) | (with_reducible refine Kd.C_drew ?_) | exact HR642_10.out)) hb); have BK643 := As (hbox); have GW643 := As ((by rw [hg]; exact (below_size (kB1 HB.out GE635.out)) : w.heap.size ≤ gb643)); have GE643 := As ((by rw [hg]; exact (below_size (kB1 HB.out GE635.out)) : w.heap.size ≤ gb643)); replace HB := As (below_step (kB1 HB.out GE635.out) hb); have NB635_643 := As ((by rw [hg]; exact Nat.ne_of_lt (blk_lt (kb BK635.out)) : gb635 ≠ gb643)); have NB643_635 := As ((by rw [hg]; exact Nat.ne_of_gt (blk_lt (kb BK635.out)) : gb643 ≠ gb635)); replace BK635 := As (blk_below (kb BK635.out) hb); clear hb hbox hg) | ((with_reducible refine gate_store (t := 28) (p := 11) rfl ?_); refine store_rowev_16 gb643 (.int .i64 ((rd_T28 t638 x10_1).f0)) (.int .i64 ((rd_T28 t638 x10_1).f1)) (.int .i64 ((rd_T28 t638 x10_1).f2)) (.int .i64 ((rd_T28 t638 x10_1).f3)) (.bool ((rd_T28 t638 x10_1).f4.f0)) (.int .u64 ((rd_T28 t638 x10_1).f4.f1)) (.int .u64 ((rd_T28 t638 x10_1).f4.f2)) (.bool ((rd_T28 t638 x10_1).f5.f0)) (.int .u64 ((rd_T28 t638 x10_1).f5.f1)) (.int .u64 ((rd_T28 t638 x10_1).f5.f2)) (.slice A642_10 ((rd_T28 t638 x10_1).f6).length c642_10) (.bool true) (.int .i64 ((rd_T28 t638 x10_1).f8)) (.int .i64 ((rd_T28 t638 x10_1).f9)) (.bool ((rd_T28 t638 x10_1).f10)) (.string ((rd_T28 t638 x10_1).f11)) rfl (t := 28) (p := 11) (v := _) rfl rfl rfl rfl (t' := 28) (kb BK643.out) (by rfl) (by kernel_rfl) (by rfl) ?_) | ((with_reducible refine gate_dst (N := 41) rfl ?_); (try (refine gate_guard (by rfl) ?_; dsimp only)); refine wpList_load_row ?hgd 28 _ rfl gb643 rfl 28 #[.int .i64 ((rd_T28 t638 x10_1).f0), .int .i64 ((rd_T28 t638 x10_1).f1), .int .i64 ((rd_T28 t638 x10_1).f2), .int .i64 ((rd_T28 t638 x10_1).f3), .bool ((rd_T28 t638 x10_1).f4.f0), .int .u64 ((rd_T28 t638 x10_1).f4.f1), .int .u64 ((rd_T28 t638 x10_1).f4.f2), .bool ((rd_T28 t638 x10_1).f5.f0), .int .u64 ((rd_T28 t638 x10_1).f5.f1), .int .u64 ((rd_T28 t638 x10_1).f5.f2), .slice A642_10 ((rd_T28 t638 x10_1).f6).length c642_10, .bool true, .int .i64 ((rd_T28 t638 x10_1).f8), .int .i64 ((rd_T28 t638 x10_1).f9), .bool ((rd_T28 t638 x10_1).f10), .string ((rd_T28 t638 x10_1).f11)] (0, 0) _ (by refine kb ?_; exact blk_all_16 (kb BK643.out) (by rfl)) Try.underlying28 rfl (by kernel_rfl) ?_; (case hgd => rfl)) | ((with_reducible refine gate_callee (f := 15) rfl ?_); refine goesL_ (some 42) rfl rfl Try.func15 (by kernel_rfl) rfl #[.agg #[.int .i64 ((rd_T28 t638 x10_1).f0), .int .i64 ((rd_T28 t638 x10_1).f1), .int .i64 ((rd_T28 t638 x10_1).f2), .int .i64 ((rd_T28 t638 x10_1).f3), .bool ((rd_T28 t638 x10_1).f4.f0), .int .u64 ((rd_T28 t638 x10_1).f4.f1), .int .u64 ((rd_T28 t638 x10_1).f4.f2), .bool ((rd_T28 t638 x10_1).f5.f0), .int .u64 ((rd_T28 t638 x10_1).f5.f1), .int .u64 ((rd_T28 t638 x10_1).f5.f2), .slice A642_10 ((rd_T28 t638 x10_1).f6).length c642_10, .bool true, .int .i64 ((rd_T28 t638 x10_1).f8), .int .i64 ((rd_T28 t638 x10_1).f9), .bool ((rd_T28 t638 x10_1).f10), .string ((rd_T28 t638 x10_1).f11)]] rfl kA ?_; (with_reducible refine (ipv6_Encode.calls k1 ((rd_T28 t638 x10_1).f0) ((rd_T28 t638 x10_1).f1) ((rd_T28 t638 x10_1).f2) ((rd_T28 t638 x10_1).f3) ((rd_T28 t638 x10_1).f4.f0) ((rd_T28 t638 x10_1).f4.f1) ((rd_T28 t638 x10_1).f4.f2) ((rd_T28 t638 x10_1).f5.f0) ((rd_T28 t638 x10_1).f5.f1) ((rd_T28 t638 x10_1).f5.f2) _ _ ((rd_T28 t638 x10_1).f6) true ((rd_T28 t638 x10_1).f8) ((rd_T28 t638 x10_1).f9) ((rd_T28 t638 x10_1).f10) ((rd_T28 t638 x10_1).f11) t644 t645 _ ?side1 ?side2 (by rw [Nbq21.out]; exact A19.out)).mono ?_); (case side1 => repeat (first | exact ((Kd.R_reads' (by refine kR ?_; exact (Kd.R_mono (Kd.R_puts_0_16 gb643 (.int .i64 ((rd_T28 t638 x10_1).f0)) (.int .i64 ((rd_T28 t638 x10_1).f1)) (.int .i64 ((rd_T28 t638 x10_1).f2)) (.int .i64 ((rd_T28 t638 x10_1).f3)) (.bool ((rd_T28 t638 x10_1).f4.f0)) (.int .u64 ((rd_T28 t638 x10_1).f4.f1)) (.int .u64 ((rd_T28 t638 x10_1).f4.f2)) (.bool ((rd_T28 t638 x10_1).f5.f0)) (.int .u64 ((rd_T28 t638 x10_1).f5.f1)) (.int .u64 ((rd_T28 t638 x10_1).f5.f2)) (.slice A642_10 ((rd_T28 t638 x10_1).f6).length c642_10) (.bool true) (.int .i64 ((rd_T28 t638 x10_1).f8)) (.int .i64 ((rd_T28 t638 x10_1).f9)) (.bool ((rd_T28 t638 x10_1).f10)) (.string ((rd_T28 t638 x10_1).f11)) (Kd.R_types HL642_10.out BK643.out (by decide)) (fun _ hk => hk.2)) (fun _ h_ => h_.1)))).2.2) | (with_reducible refine Kd.C_alloc ?_ _) | (with_reducible refine Kd.C_drewN ?_ _) | (with_reducible refine Kd.C_drew ?_))); (case side2 => exact HC642_10.out); rintro e w33 ⟨rfl, hb⟩; refine ⟨_, rfl, ?_⟩; replace HO_7 := As (Kd.S_below (by (with_reducible repeat (first | apply Kd.S_alloc | apply Kd.S_drewN | apply Kd.S_drew)); exact (Kd.S_mono (Kd.S_puts_0_16 gb643 (.int .i64 ((rd_T28 t638 x10_1).f0)) (.int .i64 ((rd_T28 t638 x10_1).f1)) (.int .i64 ((rd_T28 t638 x10_1).f2)) (.int .i64 ((rd_T28 t638 x10_1).f3)) (.bool ((rd_T28 t638 x10_1).f4.f0)) (.int .u64 ((rd_T28 t638 x10_1).f4.f1)) (.int .u64 ((rd_T28 t638 x10_1).f4.f2)) (.bool ((rd_T28 t638 x10_1).f5.f0)) (.int .u64 ((rd_T28 t638 x10_1).f5.f1)) (.int .u64 ((rd_T28 t638 x10_1).f5.f2)) (.slice A642_10 ((rd_T28 t638 x10_1).f6).length c642_10) (.bool true) (.int .i64 ((rd_T28 t638 x10_1).f8)) (.int .i64 ((rd_T28 t638 x10_1).f9)) (.bool ((rd_T28 t638 x10_1).f10)) (.string ((rd_T28 t638 x10_1).f11)) (Kd.S_mono HO_7.out (fun k_ hk => (⟨hk, hk.2⟩ : _ ∧ k_ ≠ gb643))) (fun _ hk => hk.2)) (fun _ h_ => h_.1))) hb); replace BK635 := As (blk_below (g := gb635) (o := .cells #[.int .i64 d0, .int .i64 d1, .int .i64 d2, .int .i64 d3, .bool d4, .int .u64 d5, .int .u64 d6, .bool d7, .int .u64 d8, .int .u64 d9, .slice A0_10 l0_10.length c0_10, .bool d11, .int .i64 d12, .int .i64 d13, .bool d14, .string d15] 28 (0, 0)) (by refine kb ?_; (iterate 16 (refine blk_far ?_ NB635_643.out _; refine kb ?_)); exact BK635.out) hb); replace HR642_10 := As (Kd.C_below ((Kd.R_reads' (by refine kR ?_; exact (Kd.R_mono (Kd.R_puts_0_16 gb643 (.int .i64 ((rd_T28 t638 x10_1).f0)) (.int .i64 ((rd_T28 t638 x10_1).f1)) (.int .i64 ((rd_T28 t638 x10_1).f2)) (.int .i64 ((rd_T28 t638 x10_1).f3)) (.bool ((rd_T28 t638 x10_1).f4.f0)) (.int .u64 ((rd_T28 t638 x10_1).f4.f1)) (.int .u64 ((rd_T28 t638 x10_1).f4.f2)) (.bool ((rd_T28 t638 x10_1).f5.f0)) (.int .u64 ((rd_T28 t638 x10_1).f5.f1)) (.int .u64 ((rd_T28 t638 x10_1).f5.f2)) (.slice A642_10 ((rd_T28 t638 x10_1).f6).length c642_10) (.bool true) (.int .i64 ((rd_T28 t638 x10_1).f8)) (.int .i64 ((rd_T28 t638 x10_1).f9)) (.bool ((rd_T28 t638 x10_1).f10)) (.string ((rd_T28 t638 x10_1).f11)) (Kd.R_types HL642_10.out BK643.out (by decide)) (fun _ hk => hk.2)) (fun _ h_ => h_.1)))).2.2) hb); replace HL642_10 := As (Kd.R_below (by refine kR ?_; exact (Kd.R_mono (Kd.R_puts_0_16 gb643 (.int .i64 ((rd_T28 t638 x10_1).f0)) (.int .i64 ((rd_T28 t638 x10_1).f1)) (.int .i64 ((rd_T28 t638 x10_1).f2)) (.int .i64 ((rd_T28 t638 x10_1).f3)) (.bool ((rd_T28 t638 x10_1).f4.f0)) (.int .u64 ((rd_T28 t638 x10_1).f4.f1)) (.int .u64 ((rd_T28 t638 x10_1).f4.f2)) (.bool ((rd_T28 t638 x10_1).f5.f0)) (.int .u64 ((rd_T28 t638 x10_1).f5.f1)) (.int .u64 ((rd_T28 t638 x10_1).f5.f2)) (.slice A642_10 ((rd_T28 t638 x10_1).f6).length c642_10) (.bool true) (.int .i64 ((rd_T28 t638 x10_1).f8)) (.int .i64 ((rd_T28 t638 x10_1).f9)) (.bool ((rd_T28 t638 x10_1).f10)) (.string ((rd_T28 t638 x10_1).f11)) (Kd.R_types HL642_10.out BK643.out (by decide)) (fun _ hk => hk.2)) (fun _ h_ => h_.1))) hb); replace BK643 := As (blk_below (g := gb643) (o := .cells #[.int .i64 ((rd_T28 t638 x10_1).f0), .int .i64 ((rd_T28 t638 x10_1).f1), .int .i64 ((rd_T28 t638 x10_1).f2), .int .i64 ((rd_T28 t638 x10_1).f3), .bool ((rd_T28 t638 x10_1).f4.f0), .int .u64 ((rd_T28 t638 x10_1).f4.f1), .int .u64 ((rd_T28 t638 x10_1).f4.f2), .bool ((rd_T28 t638 x10_1).f5.f0), .int .u64 ((rd_T28 t638 x10_1).f5.f1), .int .u64 ((rd_T28 t638 x10_1).f5.f2), .slice A642_10 ((rd_T28 t638 x10_1).f6).length c642_10, .bool true, .int .i64 ((rd_T28 t638 x10_1).f8), .int .i64 ((rd_T28 t638 x10_1).f9), .bool ((rd_T28 t638 x10_1).f10), .string ((rd_T28 t638 x10_1).f11)] 28 (0, 0)) (by refine kb ?_; exact blk_all_16 (kb BK643.out) (by rfl)) hb); replace HB := As (below_step (kB2 HB.out GE635.out GE643.out) hb); (try clear hb); (try clear hk); have hnb34 := NB643_635.out; have hnc34 := NB635_643.out; have hcz35_0 := cells_16 BK643.out; have hfz35_0 := fun j_ => blk_frozen BK643.out j_; have hcz36_0 := cells_16 BK635.out; have hfz36_0 := fun j_ => blk_frozen BK635.out j_))
              go_roundg k1
              case measure => have := HK1.out; omega
              case rel => exact ⟨(x9_1 ++ ((rd_T28 t638 x10_1).f11)), (wrap64 (x10_1 + 1)), kS, kS, H', ⟨by have := HK1.out; omega⟩, ⟨by (with_reducible repeat (first | apply Kd.S_alloc | apply Kd.S_drewN | apply Kd.S_drew)); exact Kd.S_mono HO_7.out (fun _ hk => hk.1)⟩, ⟨kb BK635.out⟩, ⟨kB2 HB.out GE635.out GE643.out⟩⟩
             rw [if_neg c30] at H
             exact absurd H (by simp)
            rw [if_neg c29] at H
            exact absurd H (by simp)
           rw [if_neg c28] at H
           exact absurd H (by simp)
          rw [if_neg c27] at H
          have c27b0 : decide ((wrap64 (x10_1 + 1)) < (t638.length : Int)) = false := decide_eq_false c27
          have c27x : (((rd_T28 t638 x10_1).f10) != false) = false := by simpa only [c27b0] using c25b0
          have c27y : ((rd_T28 t638 x10_1).f10) = false := by simpa using c27x
          clear c27
          by_cases c37 : (((rd_T28 t638 x10_1).f6).length : Int) = (l0_10.length : Int)
          ·rw [if_pos c37] at H
           have c37b0 : ((((rd_T28 t638 x10_1).f6).length : Int) == (l0_10.length : Int)) = true := beq_iff_eq.mpr c37
           have c37b1 : ((((rd_T28 t638 x10_1).f6).length : Int) != (l0_10.length : Int)) = false := bne_eq_false_iff_eq.mpr c37
           have c37b2 : (((rd_T28 t638 x10_1).f6).length == l0_10.length) = true := by first | simpa using c37 | (simp at c37 ⊢; omega)
           clear c37
           by_cases c38 : x9_1.size + ((rd_T28 t638 x10_1).f11).size ≤ 9223372036854775807
           ·rw [if_pos c38] at H
            have c38b0 := eq_true c38
            have c38b1 : decide (x9_1.size + ((rd_T28 t638 x10_1).f11).size ≤ 9223372036854775807) = true := decide_eq_true c38
            try have c38b2 : (9223372036854775807 < x9_1.size + ((rd_T28 t638 x10_1).f11).size) = False := eq_false (Nat.not_lt.2 c38)
            have H' := As H
            clear H
            obtain ⟨Ao39, co39, eo39⟩ := Kd.S_slice HO_7.out
            subst eo39
            have p642 : 0 ≤ (x10_1 : Int) := of_decide_eq_true (by first | (with_reducible assumption) | assumption)
            have q642 : x10_1 < (t638.length : Int) := of_decide_eq_true (by first | (with_reducible assumption) | assumption)
            obtain ⟨ad642, A642_10, c642_10, e642, hx642_0, hx642_1, hx642_2, hx642_3, hx642_4, hx642_5, hx642_6, hx642_7, hx642_8, hx642_9, hx642_10, hx642_11, hx642_12, hx642_13, hx642_14, hx642_15, hl642_10, hi642_10⟩ := at_T28 (Kd.S_reads' HO_7.out).2.2 x10_1 p642 q642
            (try rw [← Nbq21.out] at hx642_4)
            (try rw [← Nbq21.out] at hx642_7)
            (try rw [← Nbq21.out] at hx642_11)
            (try rw [← Nbq21.out] at hx642_14)
            rw [c27y] at hx642_14
            cases e642
            obtain ⟨ce642, hce642, hMe642, hcc642⟩ := Kd.S_get HO_7.out z28 x10_1 p642 (by first | exact q642 | exact of_decide_eq_true (by first | (with_reducible assumption) | assumption) | (have e_ := (Kd.S_reads' HO_7.out).1; omega))
            obtain ⟨ve642_10, rfl, ge642_10⟩ := k28_openM hMe642
            have hv642_10 := hcc642 10 _ rfl
            rw [add_field _ _ 10 (by omega)] at hv642_10
            replace hv642_10 := Option.some.inj (hv642_10.symm.trans hx642_10)
            rw [hv642_10] at ge642_10
            have HL642_10 := As (show Kd.R k60 60 _ _ _ _ ((rd_T28 t638 x10_1).f6) from ge642_10)
            clear hv642_10 ge642_10
            clear hcc642 hce642
            have HR642_10 := As hi642_10
            have HC642_10 := As hl642_10
            clear hi642_10 hl642_10
            replace p642 := eq_true p642
            replace q642 := eq_true q642
            go_wp2_with (first | ((with_reducible refine gate_dst (N := 11) rfl ?_); (try (refine gate_guard (by rfl) ?_; dsimp only)); refine box_event rfl (N := 11) rfl (cs := #[.int .i64 0, .int .i64 0, .int .i64 0, .int .i64 0, .bool false, .int .u64 0, .int .u64 0, .bool false, .int .u64 0, .int .u64 0, .slice none 0 0, .bool false, .int .i64 0, .int .i64 0, .bool false, .string (⟨#[]⟩ : ByteArray)]) (t := 28) kG ?_; intro gb643 hg w40 hbox hb; replace HO_7 := As (Kd.S_below (Kd.S_elderB (by (with_reducible repeat (first | apply Kd.S_alloc | apply Kd.S_drewN | apply Kd.S_drew)); exact HO_7.out) gb643 (Nat.le_of_eq hg.symm)) hb); replace HL642_10 := As (Kd.R_below (kR HL642_10.out) hb); replace HR642_10 := As (Kd.C_below (by repeat (first | (with_reducible exact HR642_10.out) | (with_reducible refine Kd.C_alloc ?_ _) | (with_reducible refine Kd.C_drewN ?_ _) | (with_reducible refine Kd.C_drew ?_) | exact HR642_10.out)) hb); have BK643 := As (hbox); have GW643 := As ((by rw [hg]; exact (below_size (kB1 HB.out GE635.out)) : w.heap.size ≤ gb643)); have GE643 := As ((by rw [hg]; exact (below_size (kB1 HB.out GE635.out)) : w.heap.size ≤ gb643)); replace HB := As (below_step (kB1 HB.out GE635.out) hb); have NB635_643 := As ((by rw [hg]; exact Nat.ne_of_lt (blk_lt (kb BK635.out)) : gb635 ≠ gb643)); have NB643_635 := As ((by rw [hg]; exact Nat.ne_of_gt (blk_lt (kb BK635.out)) : gb643 ≠ gb635)); replace BK635 := As (blk_below (kb BK635.out) hb); clear hb hbox hg) | ((with_reducible refine gate_store (t := 28) (p := 11) rfl ?_); refine store_rowev_16 gb643 (.int .i64 ((rd_T28 t638 x10_1).f0)) (.int .i64 ((rd_T28 t638 x10_1).f1)) (.int .i64 ((rd_T28 t638 x10_1).f2)) (.int .i64 ((rd_T28 t638 x10_1).f3)) (.bool ((rd_T28 t638 x10_1).f4.f0)) (.int .u64 ((rd_T28 t638 x10_1).f4.f1)) (.int .u64 ((rd_T28 t638 x10_1).f4.f2)) (.bool ((rd_T28 t638 x10_1).f5.f0)) (.int .u64 ((rd_T28 t638 x10_1).f5.f1)) (.int .u64 ((rd_T28 t638 x10_1).f5.f2)) (.slice A642_10 ((rd_T28 t638 x10_1).f6).length c642_10) (.bool true) (.int .i64 ((rd_T28 t638 x10_1).f8)) (.int .i64 ((rd_T28 t638 x10_1).f9)) (.bool false) (.string ((rd_T28 t638 x10_1).f11)) rfl (t := 28) (p := 11) (v := _) rfl rfl rfl rfl (t' := 28) (kb BK643.out) (by rfl) (by kernel_rfl) (by rfl) ?_) | ((with_reducible refine gate_dst (N := 41) rfl ?_); (try (refine gate_guard (by rfl) ?_; dsimp only)); refine wpList_load_row ?hgd 28 _ rfl gb643 rfl 28 #[.int .i64 ((rd_T28 t638 x10_1).f0), .int .i64 ((rd_T28 t638 x10_1).f1), .int .i64 ((rd_T28 t638 x10_1).f2), .int .i64 ((rd_T28 t638 x10_1).f3), .bool ((rd_T28 t638 x10_1).f4.f0), .int .u64 ((rd_T28 t638 x10_1).f4.f1), .int .u64 ((rd_T28 t638 x10_1).f4.f2), .bool ((rd_T28 t638 x10_1).f5.f0), .int .u64 ((rd_T28 t638 x10_1).f5.f1), .int .u64 ((rd_T28 t638 x10_1).f5.f2), .slice A642_10 ((rd_T28 t638 x10_1).f6).length c642_10, .bool true, .int .i64 ((rd_T28 t638 x10_1).f8), .int .i64 ((rd_T28 t638 x10_1).f9), .bool false, .string ((rd_T28 t638 x10_1).f11)] (0, 0) _ (by refine kb ?_; exact blk_all_16 (kb BK643.out) (by rfl)) Try.underlying28 rfl (by kernel_rfl) ?_; (case hgd => rfl)) | ((with_reducible refine gate_callee (f := 15) rfl ?_); refine goesL_ (some 42) rfl rfl Try.func15 (by kernel_rfl) rfl #[.agg #[.int .i64 ((rd_T28 t638 x10_1).f0), .int .i64 ((rd_T28 t638 x10_1).f1), .int .i64 ((rd_T28 t638 x10_1).f2), .int .i64 ((rd_T28 t638 x10_1).f3), .bool ((rd_T28 t638 x10_1).f4.f0), .int .u64 ((rd_T28 t638 x10_1).f4.f1), .int .u64 ((rd_T28 t638 x10_1).f4.f2), .bool ((rd_T28 t638 x10_1).f5.f0), .int .u64 ((rd_T28 t638 x10_1).f5.f1), .int .u64 ((rd_T28 t638 x10_1).f5.f2), .slice A642_10 ((rd_T28 t638 x10_1).f6).length c642_10, .bool true, .int .i64 ((rd_T28 t638 x10_1).f8), .int .i64 ((rd_T28 t638 x10_1).f9), .bool false, .string ((rd_T28 t638 x10_1).f11)]] rfl kA ?_; (with_reducible refine (ipv6_Encode.calls k1 ((rd_T28 t638 x10_1).f0) ((rd_T28 t638 x10_1).f1) ((rd_T28 t638 x10_1).f2) ((rd_T28 t638 x10_1).f3) ((rd_T28 t638 x10_1).f4.f0) ((rd_T28 t638 x10_1).f4.f1) ((rd_T28 t638 x10_1).f4.f2) ((rd_T28 t638 x10_1).f5.f0) ((rd_T28 t638 x10_1).f5.f1) ((rd_T28 t638 x10_1).f5.f2) _ _ ((rd_T28 t638 x10_1).f6) true ((rd_T28 t638 x10_1).f8) ((rd_T28 t638 x10_1).f9) false ((rd_T28 t638 x10_1).f11) t644 t645 _ ?side1 ?side2 (by have q_ := A19.out; rw [← Nbq21.out, c27y] at q_; exact q_)).mono ?_); (case side1 => repeat (first | exact ((Kd.R_reads' (by refine kR ?_; exact (Kd.R_mono (Kd.R_puts_0_16 gb643 (.int .i64 ((rd_T28 t638 x10_1).f0)) (.int .i64 ((rd_T28 t638 x10_1).f1)) (.int .i64 ((rd_T28 t638 x10_1).f2)) (.int .i64 ((rd_T28 t638 x10_1).f3)) (.bool ((rd_T28 t638 x10_1).f4.f0)) (.int .u64 ((rd_T28 t638 x10_1).f4.f1)) (.int .u64 ((rd_T28 t638 x10_1).f4.f2)) (.bool ((rd_T28 t638 x10_1).f5.f0)) (.int .u64 ((rd_T28 t638 x10_1).f5.f1)) (.int .u64 ((rd_T28 t638 x10_1).f5.f2)) (.slice A642_10 ((rd_T28 t638 x10_1).f6).length c642_10) (.bool true) (.int .i64 ((rd_T28 t638 x10_1).f8)) (.int .i64 ((rd_T28 t638 x10_1).f9)) (.bool false) (.string ((rd_T28 t638 x10_1).f11)) (Kd.R_types HL642_10.out BK643.out (by decide)) (fun _ hk => hk.2)) (fun _ h_ => h_.1)))).2.2) | (with_reducible refine Kd.C_alloc ?_ _) | (with_reducible refine Kd.C_drewN ?_ _) | (with_reducible refine Kd.C_drew ?_))); (case side2 => exact HC642_10.out); rintro e w41 ⟨rfl, hb⟩; refine ⟨_, rfl, ?_⟩; replace HO_7 := As (Kd.S_below (by (with_reducible repeat (first | apply Kd.S_alloc | apply Kd.S_drewN | apply Kd.S_drew)); exact (Kd.S_mono (Kd.S_puts_0_16 gb643 (.int .i64 ((rd_T28 t638 x10_1).f0)) (.int .i64 ((rd_T28 t638 x10_1).f1)) (.int .i64 ((rd_T28 t638 x10_1).f2)) (.int .i64 ((rd_T28 t638 x10_1).f3)) (.bool ((rd_T28 t638 x10_1).f4.f0)) (.int .u64 ((rd_T28 t638 x10_1).f4.f1)) (.int .u64 ((rd_T28 t638 x10_1).f4.f2)) (.bool ((rd_T28 t638 x10_1).f5.f0)) (.int .u64 ((rd_T28 t638 x10_1).f5.f1)) (.int .u64 ((rd_T28 t638 x10_1).f5.f2)) (.slice A642_10 ((rd_T28 t638 x10_1).f6).length c642_10) (.bool true) (.int .i64 ((rd_T28 t638 x10_1).f8)) (.int .i64 ((rd_T28 t638 x10_1).f9)) (.bool false) (.string ((rd_T28 t638 x10_1).f11)) (Kd.S_mono HO_7.out (fun k_ hk => (⟨hk, hk.2⟩ : _ ∧ k_ ≠ gb643))) (fun _ hk => hk.2)) (fun _ h_ => h_.1))) hb); replace BK635 := As (blk_below (g := gb635) (o := .cells #[.int .i64 d0, .int .i64 d1, .int .i64 d2, .int .i64 d3, .bool d4, .int .u64 d5, .int .u64 d6, .bool d7, .int .u64 d8, .int .u64 d9, .slice A0_10 l0_10.length c0_10, .bool d11, .int .i64 d12, .int .i64 d13, .bool d14, .string d15] 28 (0, 0)) (by refine kb ?_; (iterate 16 (refine blk_far ?_ NB635_643.out _; refine kb ?_)); exact BK635.out) hb); replace HR642_10 := As (Kd.C_below ((Kd.R_reads' (by refine kR ?_; exact (Kd.R_mono (Kd.R_puts_0_16 gb643 (.int .i64 ((rd_T28 t638 x10_1).f0)) (.int .i64 ((rd_T28 t638 x10_1).f1)) (.int .i64 ((rd_T28 t638 x10_1).f2)) (.int .i64 ((rd_T28 t638 x10_1).f3)) (.bool ((rd_T28 t638 x10_1).f4.f0)) (.int .u64 ((rd_T28 t638 x10_1).f4.f1)) (.int .u64 ((rd_T28 t638 x10_1).f4.f2)) (.bool ((rd_T28 t638 x10_1).f5.f0)) (.int .u64 ((rd_T28 t638 x10_1).f5.f1)) (.int .u64 ((rd_T28 t638 x10_1).f5.f2)) (.slice A642_10 ((rd_T28 t638 x10_1).f6).length c642_10) (.bool true) (.int .i64 ((rd_T28 t638 x10_1).f8)) (.int .i64 ((rd_T28 t638 x10_1).f9)) (.bool false) (.string ((rd_T28 t638 x10_1).f11)) (Kd.R_types HL642_10.out BK643.out (by decide)) (fun _ hk => hk.2)) (fun _ h_ => h_.1)))).2.2) hb); replace HL642_10 := As (Kd.R_below (by refine kR ?_; exact (Kd.R_mono (Kd.R_puts_0_16 gb643 (.int .i64 ((rd_T28 t638 x10_1).f0)) (.int .i64 ((rd_T28 t638 x10_1).f1)) (.int .i64 ((rd_T28 t638 x10_1).f2)) (.int .i64 ((rd_T28 t638 x10_1).f3)) (.bool ((rd_T28 t638 x10_1).f4.f0)) (.int .u64 ((rd_T28 t638 x10_1).f4.f1)) (.int .u64 ((rd_T28 t638 x10_1).f4.f2)) (.bool ((rd_T28 t638 x10_1).f5.f0)) (.int .u64 ((rd_T28 t638 x10_1).f5.f1)) (.int .u64 ((rd_T28 t638 x10_1).f5.f2)) (.slice A642_10 ((rd_T28 t638 x10_1).f6).length c642_10) (.bool true) (.int .i64 ((rd_T28 t638 x10_1).f8)) (.int .i64 ((rd_T28 t638 x10_1).f9)) (.bool false) (.string ((rd_T28 t638 x10_1).f11)) (Kd.R_types HL642_10.out BK643.out (by decide)) (fun _ hk => hk.2)) (fun _ h_ => h_.1))) hb); replace BK643 := As (blk_below (g := gb643) (o := .cells #[.int .i64 ((rd_T28 t638 x10_1).f0), .int .i64 ((rd_T28 t638 x10_1).f1), .int .i64 ((rd_T28 t638 x10_1).f2), .int .i64 ((rd_T28 t638 x10_1).f3), .bool ((rd_T28 t638 x10_1).f4.f0), .int .u64 ((rd_T28 t638 x10_1).f4.f1), .int .u64 ((rd_T28 t638 x10_1).f4.f2), .bool ((rd_T28 t638 x10_1).f5.f0), .int .u64 ((rd_T28 t638 x10_1).f5.f1), .int .u64 ((rd_T28 t638 x10_1).f5.f2), .slice A642_10 ((rd_T28 t638 x10_1).f6).length c642_10, .bool true, .int .i64 ((rd_T28 t638 x10_1).f8), .int .i64 ((rd_T28 t638 x10_1).f9), .bool false, .string ((rd_T28 t638 x10_1).f11)] 28 (0, 0)) (by refine kb ?_; exact blk_all_16 (kb BK643.out) (by rfl)) hb); replace HB := As (below_step (kB2 HB.out GE635.out GE643.out) hb); (try clear hb); (try clear hk); have hnb42 := NB643_635.out; have hnc42 := NB635_643.out; have hcz43_0 := cells_16 BK643.out; have hfz43_0 := fun j_ => blk_frozen BK643.out j_; have hcz44_0 := cells_16 BK635.out; have hfz44_0 := fun j_ => blk_frozen BK635.out j_))
            go_roundg k1
            case measure => have := HK1.out; omega
            case rel => exact ⟨(x9_1 ++ ((rd_T28 t638 x10_1).f11)), (wrap64 (x10_1 + 1)), kS, kS, H', ⟨by have := HK1.out; omega⟩, ⟨by (with_reducible repeat (first | apply Kd.S_alloc | apply Kd.S_drewN | apply Kd.S_drew)); exact Kd.S_mono HO_7.out (fun _ hk => hk.1)⟩, ⟨kb BK635.out⟩, ⟨kB2 HB.out GE635.out GE643.out⟩⟩
           rw [if_neg c38] at H
           exact absurd H (by simp)
          rw [if_neg c37] at H
          exact absurd H (by simp)
         rw [if_neg c24] at H
         exact absurd H (by simp)
        rw [if_neg c23] at H
        exact absurd H (by simp)
       replace c22 := Bool.eq_false_iff.mpr c22
       subst c22
       have H1 : (none) = some r := by rw [if_neg (show ¬ (false = true) by decide)] at H; exact H
       clear H
       have H := H1
       clear H1
       exact absurd H (by simp)
      rw [if_neg c20] at H
      exact absurd H (by simp)
     rw [if_neg c18] at H
     exact absurd H (by simp)
    rw [if_neg c17] at H
    have c17b0 : decide (x10_1 < (t638.length : Int)) = false := decide_eq_false c17
    clear c17
    by_cases c45 : x9_1.toList = d15.toList
    ·rw [if_pos c45] at H
     have c45b0 : (x9_1.toList == d15.toList) = true := beq_iff_eq.mpr c45
     have c45b1 : (x9_1.toList != d15.toList) = false := bne_eq_false_iff_eq.mpr c45
     clear c45
     obtain rfl := Option.some.inj H
     obtain ⟨Ao46, co46, eo46⟩ := Kd.S_slice HO_7.out
     subst eo46
     have hcz47_0 := cells_16 BK635.out
     have hfz47_0 := fun j_ => blk_frozen BK635.out j_
     go_wp2
     go_ret
     exact ⟨kE, by exact kB1 HB.out GE635.out⟩
    rw [if_neg c45] at H
    exact absurd H (by simp)
  rw [if_neg c12] at H
  have c12b0 : (t641 == 0) = false := beq_eq_false_iff_ne.mpr c12
  have c12b1 : (t641 != 0) = true := bne_iff_ne.mpr c12
  obtain rfl := Option.some.inj H
  go_enter Try.func9, Try.ntmps9
  go_wp2_with (first | ((with_reducible refine gate_dst (N := 3) rfl ?_); (try (refine gate_guard (by rfl) ?_; dsimp only)); refine box_event rfl (N := 3) rfl (cs := #[.int .i64 d0, .int .i64 d1, .int .i64 d2, .int .i64 d3, .bool d4, .int .u64 d5, .int .u64 d6, .bool d7, .int .u64 d8, .int .u64 d9, .slice A0_10 l0_10.length c0_10, .bool d11, .int .i64 d12, .int .i64 d13, .bool d14, .string d15]) (t := 28) kG ?_; intro gb635 hg w48 hbox hb; have BK635 := As (hbox); have GW635 := As ((by rw [hg]; exact (below_size (kB HB.out)) : w.heap.size ≤ gb635)); have GE635 := As ((by rw [hg]; exact (below_size (kB HB.out)) : w.heap.size ≤ gb635)); replace HB := As (below_step (kB HB.out) hb); clear hb hbox hg) | ((with_reducible refine gate_callee (f := 10) rfl ?_); refine goesL_ (some 14) rfl rfl Try.func10 (by kernel_rfl) rfl #[] rfl kA ?_; (with_reducible refine (intrusionlaw12_lives.calls k  true _ A4.out).mono ?_); rintro e w49 ⟨rfl, hb⟩; refine ⟨_, rfl, ?_⟩; replace BK635 := As (blk_below (kb BK635.out) hb); replace HB := As (below_step (kB1 HB.out GE635.out) hb); (try clear hb)) | ((with_reducible refine gate_dst (N := 16) rfl ?_); (try (refine gate_guard (by rfl) ?_; dsimp only)); refine wpList_load_row rfl 28 _ rfl gb635 rfl 28 _ (0, 0) _ (kb BK635.out) Try.underlying28 rfl (by kernel_rfl) ?_) | ((with_reducible refine gate_callee (f := 14) rfl ?_); refine goesL_ (some 17) rfl rfl Try.func14 (by kernel_rfl) rfl #[.agg #[.int .i64 d0, .int .i64 d1, .int .i64 d2, .int .i64 d3, .bool d4, .int .u64 d5, .int .u64 d6, .bool d7, .int .u64 d8, .int .u64 d9, .slice A0_10 l0_10.length c0_10, .bool d11, .int .i64 d12, .int .i64 d13, .bool d14, .string d15], .int .i64 2000] rfl kA ?_; (with_reducible refine (intrusionref12_Long.calls k d0 d1 d2 d3 d4 d5 d6 d7 d8 d9 _ _ l0_10 d11 d12 d13 d14 d15 2000 false _ ?side1 ?side2 A6.out).mono ?_); (case side1 => repeat (first | exact (Kd.C_below HR0_10.out HB.out) | (with_reducible refine Kd.C_alloc ?_ _) | (with_reducible refine Kd.C_drewN ?_ _) | (with_reducible refine Kd.C_drew ?_))); (case side2 => exact HC0_10.out); rintro e w50 ⟨rfl, hb⟩; refine ⟨_, rfl, ?_⟩; replace BK635 := As (blk_below (kb BK635.out) hb); replace HB := As (below_step (kB1 HB.out GE635.out) hb); (try clear hb)) | ((with_reducible refine gate_dst (N := 19) rfl ?_); (try (refine gate_guard (by rfl) ?_; dsimp only)); refine wpList_load_row rfl 28 _ rfl gb635 rfl 28 _ (0, 0) _ (kb BK635.out) Try.underlying28 rfl (by kernel_rfl) ?_) | ((with_reducible refine gate_callee (f := 17) rfl ?_); refine goesL_ (some 22) rfl rfl Try.func17 (by kernel_rfl) rfl #[.agg #[.int .i64 d0, .int .i64 d1, .int .i64 d2, .int .i64 d3, .bool d4, .int .u64 d5, .int .u64 d6, .bool d7, .int .u64 d8, .int .u64 d9, .slice A0_10 l0_10.length c0_10, .bool d11, .int .i64 d12, .int .i64 d13, .bool d14, .string d15], .int .i64 a1, .int .i64 a2] rfl kA ?_; (with_reducible refine (ipv6_Split.calls k d0 d1 d2 d3 d4 d5 d6 d7 d8 d9 _ _ l0_10 d11 d12 d13 d14 d15 a1 a2 t638 t641 _ ?side1 ?side2 A11.out).mono ?_); (case side1 => repeat (first | exact (Kd.C_below HR0_10.out HB.out) | (with_reducible refine Kd.C_alloc ?_ _) | (with_reducible refine Kd.C_drewN ?_ _) | (with_reducible refine Kd.C_drew ?_))); (case side2 => exact HC0_10.out); rintro e w51 ⟨v639, rfl, ho0, hb⟩; refine ⟨_, rfl, ?_⟩; have HO640 := As (Kd.S_lower (Kd.S_newB ho0 (kb BK635.out)) (below_size (kB1 HB.out GE635.out))); replace BK635 := As (blk_below (kb BK635.out) hb); replace HB := As (below_step (kB1 HB.out GE635.out) hb); (try clear hb); (try clear ho0); obtain ⟨Ao52, co52, eo52⟩ := Kd.S_slice HO640.out; subst eo52))
  go_ret
  exact ⟨kE, by exact kB1 HB.out GE635.out⟩
 replace c5 := Bool.eq_false_iff.mpr c5
 subst c5
 have H1 : (none) = some r := by rw [if_neg (show ¬ (false = true) by decide)] at H; exact H
 clear H
 have H := H1
 clear H1
 exact absurd H (by simp)

end Go.Proofs.Ytljboandbjahdaa.X
-- short
