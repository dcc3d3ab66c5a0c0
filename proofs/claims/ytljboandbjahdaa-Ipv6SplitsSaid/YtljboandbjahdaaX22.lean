/- What the functions of the translation that this claim's statement reaches compute, each proved by its walk. Written by xprint.py, a program of this claim's author, run over the kit's printer. -/
import Derived.Test.YtljboandbjahdaaX0
import Derived.Test.YtljboandbjahdaaX10
import Derived.Test.YtljboandbjahdaaX12
import Derived.Test.YtljboandbjahdaaX13
import Derived.Test.YtljboandbjahdaaX21
namespace Go.Proofs.Ytljboandbjahdaa.X
open Go.RowKit Go.Proofs.YtljboandbjahdaaW.PrintWords Go.Proofs.YtljboandbjahdaaW.PrintLast Go.Proofs.YtljboandbjahdaaW.PrintMore
attribute [local go_sem] max2_int min2_int max_two min_two max_three min_three max_four min_four   -- for this text's walks alone
set_option linter.unusedVariables false
set_option linter.unusedSimpArgs false

/-! ### intrusionlaw12_Ipv6Splits: function 5 -/
def intrusionlaw12_Ipv6Splits.j0 : Nat → Int → Int → Bool → Int → Int → Int → Int → Bool → Int → Int → Bool → Int → Int → List (S60) → Bool → Int → Int → Bool → ByteArray → Option (Bool)
 | 0, _, _, _, _, _, _, _, _, _, _, _, _, _, _, _, _, _, _, _ => none
 | k + 1, x1, x2, x26, b0, b1, b2, b3, b4, b5, b6, b7, b8, b9, b10, b11, b12, b13, b14, b15 => if x26 = true then ((intrusionlaw12_lives.f k).bind fun t500 => (some t500)) else ((ipv6_Split.f k b0 b1 b2 b3 b4 b5 b6 b7 b8 b9 b10 b11 b12 b13 b14 b15 x1 x2).bind fun bt501 => ((intrusionref12_Split.f k b0 b1 b2 b3 b4 b5 b6 b7 b8 b9 b10 b11 b12 b13 b14 b15 x1 x2).bind fun bt505 => ((intrusionref12_All.f k bt501.1 bt505.1).bind fun t509 => (if t509 = true then (if bt501.2 = bt505.2 then ((intrusionlaw12_lives.f k).bind fun t510 => (some t510)) else (none)) else (none)))))
def intrusionlaw12_Ipv6Splits.f (k : Nat) (d0 : Int) (d1 : Int) (d2 : Int) (d3 : Int) (d4 : Bool) (d5 : Int) (d6 : Int) (d7 : Bool) (d8 : Int) (d9 : Int) (l0_10 : List (S60)) (d11 : Bool) (d12 : Int) (d13 : Int) (d14 : Bool) (d15 : ByteArray) (a1 : Int) (a2 : Int) : Option (Bool) := (intrusionref12_Long.f k d0 d1 d2 d3 d4 d5 d6 d7 d8 d9 l0_10 d11 d12 d13 d14 d15 66000).bind fun t499 => (if t499 = true then (intrusionlaw12_Ipv6Splits.j0 k a1 a2 true d0 d1 d2 d3 d4 d5 d6 d7 d8 d9 l0_10 d11 d12 d13 d14 d15) else (if (d15.size : Int) > 2000 then (if a1 > 0 then (intrusionlaw12_Ipv6Splits.j0 k a1 a2 (decide (a1 < 5000)) d0 d1 d2 d3 d4 d5 d6 d7 d8 d9 l0_10 d11 d12 d13 d14 d15) else (intrusionlaw12_Ipv6Splits.j0 k a1 a2 false d0 d1 d2 d3 d4 d5 d6 d7 d8 d9 l0_10 d11 d12 d13 d14 d15)) else (intrusionlaw12_Ipv6Splits.j0 k a1 a2 false d0 d1 d2 d3 d4 d5 d6 d7 d8 d9 l0_10 d11 d12 d13 d14 d15)))
theorem intrusionlaw12_Ipv6Splits.mono_l : ∀ k, (∀ y0 y1 y2 y3 y4 y5 y6 y7 y8 y9 y10 y11 y12 y13 y14 y15 y16 y17 y18, LeO (intrusionlaw12_Ipv6Splits.j0 k y0 y1 y2 y3 y4 y5 y6 y7 y8 y9 y10 y11 y12 y13 y14 y15 y16 y17 y18) (intrusionlaw12_Ipv6Splits.j0 (k + 1) y0 y1 y2 y3 y4 y5 y6 y7 y8 y9 y10 y11 y12 y13 y14 y15 y16 y17 y18))
 | 0 => fun _ _ _ _ _ _ _ _ _ _ _ _ _ _ _ _ _ _ _ r h => by simp [intrusionlaw12_Ipv6Splits.j0] at h
 | k + 1 => by
  have ih0 := intrusionlaw12_Ipv6Splits.mono_l k
  intro y0 y1 y2 y3 y4 y5 y6 y7 y8 y9 y10 y11 y12 y13 y14 y15 y16 y17 y18
  unfold intrusionlaw12_Ipv6Splits.j0
  repeat' first | with_reducible first | apply ih0 | apply intrusionlaw12_lives.mono | apply intrusionref12_All.mono | apply intrusionref12_Long.mono | apply intrusionref12_Split.mono | apply ipv6_Split.mono | apply LeO.refl | apply LeO.none | refine LeO.ite ?_ ?_ | refine LeO.bind ?_ (fun _ => ?_)
theorem intrusionlaw12_Ipv6Splits.mono : ∀ a0 a1 a2 a3 a4 a5 a6 a7 a8 a9 a10 a11 a12 a13 a14 a15 a16 a17 k, LeO (intrusionlaw12_Ipv6Splits.f k a0 a1 a2 a3 a4 a5 a6 a7 a8 a9 a10 a11 a12 a13 a14 a15 a16 a17) (intrusionlaw12_Ipv6Splits.f (k + 1) a0 a1 a2 a3 a4 a5 a6 a7 a8 a9 a10 a11 a12 a13 a14 a15 a16 a17) := by
 intro a0 a1 a2 a3 a4 a5 a6 a7 a8 a9 a10 a11 a12 a13 a14 a15 a16 a17 k
 have ih0 := intrusionlaw12_Ipv6Splits.mono_l k
 unfold intrusionlaw12_Ipv6Splits.f
 repeat' first | with_reducible first | apply ih0 | apply intrusionlaw12_lives.mono | apply intrusionref12_All.mono | apply intrusionref12_Long.mono | apply intrusionref12_Split.mono | apply ipv6_Split.mono | apply LeO.refl | apply LeO.none | refine LeO.ite ?_ ?_ | refine LeO.bind ?_ (fun _ => ?_)
set_option maxHeartbeats 8000000 in
set_option maxRecDepth 100000 in
theorem intrusionlaw12_Ipv6Splits.calls (k : Nat) (d0 : Int) (d1 : Int) (d2 : Int) (d3 : Int) (d4 : Bool) (d5 : Int) (d6 : Int) (d7 : Bool) (d8 : Int) (d9 : Int) (A0_10 : Option Addr) (c0_10 : Nat) (l0_10 : List (S60)) (d11 : Bool) (d12 : Int) (d13 : Int) (d14 : Bool) (d15 : ByteArray) (a1 : Int) (a2 : Int) (r : Bool) (w : World) (hr0_10 : Kd.C k60 w A0_10 l0_10.length l0_10) (hc0_10 : l0_10.length ≤ c0_10) (h : intrusionlaw12_Ipv6Splits.f k d0 d1 d2 d3 d4 d5 d6 d7 d8 d9 l0_10 d11 d12 d13 d14 d15 a1 a2 = some r) :
  Calls Try.prog 5 #[.agg #[.int .i64 d0, .int .i64 d1, .int .i64 d2, .int .i64 d3, .bool d4, .int .u64 d5, .int .u64 d6, .bool d7, .int .u64 d8, .int .u64 d9, .slice A0_10 l0_10.length c0_10, .bool d11, .int .i64 d12, .int .i64 d13, .bool d14, .string d15], .int .i64 a1, .int .i64 a2] w fun e w' => e = .returned (.bool r) ∧ Below w.heap.size w w' := by
 have hu28 := Try.underlying28
 have HR0_10 := As hr0_10
 have HC0_10 := As hc0_10
 clear hr0_10 hc0_10
 have HB := As (Below.refl w.heap.size w)
 have H : ((intrusionref12_Long.f k d0 d1 d2 d3 d4 d5 d6 d7 d8 d9 l0_10 d11 d12 d13 d14 d15 66000).bind fun t499 => (if t499 = true then (intrusionlaw12_Ipv6Splits.j0 k a1 a2 true d0 d1 d2 d3 d4 d5 d6 d7 d8 d9 l0_10 d11 d12 d13 d14 d15) else (if (d15.size : Int) > 2000 then (if a1 > 0 then (intrusionlaw12_Ipv6Splits.j0 k a1 a2 (decide (a1 < 5000)) d0 d1 d2 d3 d4 d5 d6 d7 d8 d9 l0_10 d11 d12 d13 d14 d15) else (intrusionlaw12_Ipv6Splits.j0 k a1 a2 false d0 d1 d2 d3 d4 d5 d6 d7 d8 d9 l0_10 d11 d12 d13 d14 d15)) else (intrusionlaw12_Ipv6Splits.j0 k a1 a2 false d0 d1 d2 d3 d4 d5 d6 d7 d8 d9 l0_10 d11 d12 d13 d14 d15)))) = some r := h
 clear h
 have HC4 := As H
 clear H
 go_enter Try.func5, Try.ntmps5
 go_upto_region 1 with (first | ((with_reducible refine gate_dst (N := 3) rfl ?_); (try (refine gate_guard (by rfl) ?_; dsimp only)); refine box_event rfl (N := 3) rfl (cs := #[.int .i64 d0, .int .i64 d1, .int .i64 d2, .int .i64 d3, .bool d4, .int .u64 d5, .int .u64 d6, .bool d7, .int .u64 d8, .int .u64 d9, .slice A0_10 l0_10.length c0_10, .bool d11, .int .i64 d12, .int .i64 d13, .bool d14, .string d15]) (t := 28) kG ?_; intro gb498 hg w5 hbox hb; have BK498 := As (hbox); have GW498 := As ((by rw [hg]; exact (below_size (kB HB.out)) : w.heap.size ≤ gb498)); have GE498 := As ((by rw [hg]; exact (below_size (kB HB.out)) : w.heap.size ≤ gb498)); replace HB := As (below_step (kB HB.out) hb); clear hb hbox hg))
 (try simp only [Act.put, sA, sZ, sS])
 go_cut [26] (fun v26 wc => ∃ (kq : Nat) (x26_3 : Bool), v26 = .bool x26_3 ∧ Aside0 (intrusionlaw12_Ipv6Splits.j0 kq a1 a2 x26_3 d0 d1 d2 d3 d4 d5 d6 d7 d8 d9 l0_10 d11 d12 d13 d14 d15 = some r) ∧ Aside0 (kq ≤ k) ∧ Aside0 (wc.heap[gb498]? = some (.cells #[.int .i64 d0, .int .i64 d1, .int .i64 d2, .int .i64 d3, .bool d4, .int .u64 d5, .int .u64 d6, .bool d7, .int .u64 d8, .int .u64 d9, (.slice A0_10 l0_10.length c0_10), .bool d11, .int .i64 d12, .int .i64 d13, .bool d14, .string d15] 28 (0, 0))) ∧ Aside0 (Below w.heap.size w wc))
 case first =>
  have H := HC4.out
  clear HC4
  replace H := Option.bind_eq_some_iff.mp H
  obtain ⟨t499, A60, H⟩ := H
  replace H : (if t499 = true then (intrusionlaw12_Ipv6Splits.j0 k a1 a2 true d0 d1 d2 d3 d4 d5 d6 d7 d8 d9 l0_10 d11 d12 d13 d14 d15) else (if (d15.size : Int) > 2000 then (if a1 > 0 then (intrusionlaw12_Ipv6Splits.j0 k a1 a2 (decide (a1 < 5000)) d0 d1 d2 d3 d4 d5 d6 d7 d8 d9 l0_10 d11 d12 d13 d14 d15) else (intrusionlaw12_Ipv6Splits.j0 k a1 a2 false d0 d1 d2 d3 d4 d5 d6 d7 d8 d9 l0_10 d11 d12 d13 d14 d15)) else (intrusionlaw12_Ipv6Splits.j0 k a1 a2 false d0 d1 d2 d3 d4 d5 d6 d7 d8 d9 l0_10 d11 d12 d13 d14 d15))) = some r := H
  have A6 := As A60
  clear A60
  by_cases c7 : t499 = true
  ·subst c7
   have H1 : (intrusionlaw12_Ipv6Splits.j0 k a1 a2 true d0 d1 d2 d3 d4 d5 d6 d7 d8 d9 l0_10 d11 d12 d13 d14 d15) = some r := by rw [if_pos rfl] at H; exact H
   clear H
   have H := H1
   clear H1
   have H' := As H
   clear H
   go_wp2_with (first | ((with_reducible refine gate_dst (N := 11) rfl ?_); (try (refine gate_guard (by rfl) ?_; dsimp only)); refine wpList_load_row rfl 28 _ rfl gb498 rfl 28 _ (0, 0) _ (kb BK498.out) Try.underlying28 rfl (by kernel_rfl) ?_) | ((with_reducible refine gate_callee (f := 14) rfl ?_); refine goesL_ (some 12) rfl rfl Try.func14 (by kernel_rfl) rfl #[.agg #[.int .i64 d0, .int .i64 d1, .int .i64 d2, .int .i64 d3, .bool d4, .int .u64 d5, .int .u64 d6, .bool d7, .int .u64 d8, .int .u64 d9, .slice A0_10 l0_10.length c0_10, .bool d11, .int .i64 d12, .int .i64 d13, .bool d14, .string d15], .int .i64 66000] rfl kA ?_; (with_reducible refine (intrusionref12_Long.calls k d0 d1 d2 d3 d4 d5 d6 d7 d8 d9 _ _ l0_10 d11 d12 d13 d14 d15 66000 true _ ?side1 ?side2 A6.out).mono ?_); (case side1 => repeat (first | exact (Kd.C_below HR0_10.out HB.out) | (with_reducible refine Kd.C_alloc ?_ _) | (with_reducible refine Kd.C_drewN ?_ _) | (with_reducible refine Kd.C_drew ?_))); (case side2 => exact HC0_10.out); rintro e w8 ⟨rfl, hb⟩; refine ⟨_, rfl, ?_⟩; replace BK498 := As (blk_below (kb BK498.out) hb); replace HB := As (below_step (kB1 HB.out GE498.out) hb); (try clear hb)))
   go_meet
   case rel => exact ⟨_, (true), kS, H', ⟨by first | omega | exact Nat.le_refl _⟩, ⟨kb BK498.out⟩, ⟨kB1 HB.out GE498.out⟩⟩
  replace c7 := Bool.eq_false_iff.mpr c7
  subst c7
  have H1 : (if (d15.size : Int) > 2000 then (if a1 > 0 then (intrusionlaw12_Ipv6Splits.j0 k a1 a2 (decide (a1 < 5000)) d0 d1 d2 d3 d4 d5 d6 d7 d8 d9 l0_10 d11 d12 d13 d14 d15) else (intrusionlaw12_Ipv6Splits.j0 k a1 a2 false d0 d1 d2 d3 d4 d5 d6 d7 d8 d9 l0_10 d11 d12 d13 d14 d15)) else (intrusionlaw12_Ipv6Splits.j0 k a1 a2 false d0 d1 d2 d3 d4 d5 d6 d7 d8 d9 l0_10 d11 d12 d13 d14 d15)) = some r := by rw [if_neg (show ¬ (false = true) by decide)] at H; exact H
  clear H
  have H := H1
  clear H1
  by_cases c9 : (d15.size : Int) > 2000
  ·rw [if_pos c9] at H
   have c9b0 : decide (2000 < (d15.size : Int)) = true := decide_eq_true c9
   have c9b1 : decide (2000 < d15.size) = true := decide_eq_true (by omega)
   clear c9
   (first | rw [c9b0] | (simp only [i64_w, i32_w]; rw [c9b0]) | skip)
   by_cases c10 : a1 > 0
   ·rw [if_pos c10] at H
    have c10b0 : decide (0 < a1) = true := decide_eq_true c10
    clear c10
    have H' := As H
    clear H
    go_wp2_with (first | ((with_reducible refine gate_dst (N := 11) rfl ?_); (try (refine gate_guard (by rfl) ?_; dsimp only)); refine wpList_load_row rfl 28 _ rfl gb498 rfl 28 _ (0, 0) _ (kb BK498.out) Try.underlying28 rfl (by kernel_rfl) ?_) | ((with_reducible refine gate_callee (f := 14) rfl ?_); refine goesL_ (some 12) rfl rfl Try.func14 (by kernel_rfl) rfl #[.agg #[.int .i64 d0, .int .i64 d1, .int .i64 d2, .int .i64 d3, .bool d4, .int .u64 d5, .int .u64 d6, .bool d7, .int .u64 d8, .int .u64 d9, .slice A0_10 l0_10.length c0_10, .bool d11, .int .i64 d12, .int .i64 d13, .bool d14, .string d15], .int .i64 66000] rfl kA ?_; (with_reducible refine (intrusionref12_Long.calls k d0 d1 d2 d3 d4 d5 d6 d7 d8 d9 _ _ l0_10 d11 d12 d13 d14 d15 66000 false _ ?side1 ?side2 A6.out).mono ?_); (case side1 => repeat (first | exact (Kd.C_below HR0_10.out HB.out) | (with_reducible refine Kd.C_alloc ?_ _) | (with_reducible refine Kd.C_drewN ?_ _) | (with_reducible refine Kd.C_drew ?_))); (case side2 => exact HC0_10.out); rintro e w11 ⟨rfl, hb⟩; refine ⟨_, rfl, ?_⟩; replace BK498 := As (blk_below (kb BK498.out) hb); replace HB := As (below_step (kB1 HB.out GE498.out) hb); (try clear hb); have hcz12_0 := cells_16 BK498.out; have hfz12_0 := fun j_ => blk_frozen BK498.out j_))
    go_meet
    case rel => exact ⟨_, (decide (a1 < 5000)), kS, H', ⟨by first | omega | exact Nat.le_refl _⟩, ⟨kb BK498.out⟩, ⟨kB1 HB.out GE498.out⟩⟩
   rw [if_neg c10] at H
   have c10b0 : decide (0 < a1) = false := decide_eq_false c10
   clear c10
   have H' := As H
   clear H
   go_wp2_with (first | ((with_reducible refine gate_dst (N := 11) rfl ?_); (try (refine gate_guard (by rfl) ?_; dsimp only)); refine wpList_load_row rfl 28 _ rfl gb498 rfl 28 _ (0, 0) _ (kb BK498.out) Try.underlying28 rfl (by kernel_rfl) ?_) | ((with_reducible refine gate_callee (f := 14) rfl ?_); refine goesL_ (some 12) rfl rfl Try.func14 (by kernel_rfl) rfl #[.agg #[.int .i64 d0, .int .i64 d1, .int .i64 d2, .int .i64 d3, .bool d4, .int .u64 d5, .int .u64 d6, .bool d7, .int .u64 d8, .int .u64 d9, .slice A0_10 l0_10.length c0_10, .bool d11, .int .i64 d12, .int .i64 d13, .bool d14, .string d15], .int .i64 66000] rfl kA ?_; (with_reducible refine (intrusionref12_Long.calls k d0 d1 d2 d3 d4 d5 d6 d7 d8 d9 _ _ l0_10 d11 d12 d13 d14 d15 66000 false _ ?side1 ?side2 A6.out).mono ?_); (case side1 => repeat (first | exact (Kd.C_below HR0_10.out HB.out) | (with_reducible refine Kd.C_alloc ?_ _) | (with_reducible refine Kd.C_drewN ?_ _) | (with_reducible refine Kd.C_drew ?_))); (case side2 => exact HC0_10.out); rintro e w13 ⟨rfl, hb⟩; refine ⟨_, rfl, ?_⟩; replace BK498 := As (blk_below (kb BK498.out) hb); replace HB := As (below_step (kB1 HB.out GE498.out) hb); (try clear hb); have hcz14_0 := cells_16 BK498.out; have hfz14_0 := fun j_ => blk_frozen BK498.out j_))
   go_meet
   case rel => exact ⟨_, (false), kS, H', ⟨by first | omega | exact Nat.le_refl _⟩, ⟨kb BK498.out⟩, ⟨kB1 HB.out GE498.out⟩⟩
  rw [if_neg c9] at H
  have c9b0 : decide (2000 < (d15.size : Int)) = false := decide_eq_false c9
  have c9b1 : decide (2000 < d15.size) = false := decide_eq_false (by omega)
  clear c9
  (first | rw [c9b0] | (simp only [i64_w, i32_w]; rw [c9b0]) | skip)
  have H' := As H
  clear H
  go_wp2_with (first | ((with_reducible refine gate_dst (N := 11) rfl ?_); (try (refine gate_guard (by rfl) ?_; dsimp only)); refine wpList_load_row rfl 28 _ rfl gb498 rfl 28 _ (0, 0) _ (kb BK498.out) Try.underlying28 rfl (by kernel_rfl) ?_) | ((with_reducible refine gate_callee (f := 14) rfl ?_); refine goesL_ (some 12) rfl rfl Try.func14 (by kernel_rfl) rfl #[.agg #[.int .i64 d0, .int .i64 d1, .int .i64 d2, .int .i64 d3, .bool d4, .int .u64 d5, .int .u64 d6, .bool d7, .int .u64 d8, .int .u64 d9, .slice A0_10 l0_10.length c0_10, .bool d11, .int .i64 d12, .int .i64 d13, .bool d14, .string d15], .int .i64 66000] rfl kA ?_; (with_reducible refine (intrusionref12_Long.calls k d0 d1 d2 d3 d4 d5 d6 d7 d8 d9 _ _ l0_10 d11 d12 d13 d14 d15 66000 false _ ?side1 ?side2 A6.out).mono ?_); (case side1 => repeat (first | exact (Kd.C_below HR0_10.out HB.out) | (with_reducible refine Kd.C_alloc ?_ _) | (with_reducible refine Kd.C_drewN ?_ _) | (with_reducible refine Kd.C_drew ?_))); (case side2 => exact HC0_10.out); rintro e w15 ⟨rfl, hb⟩; refine ⟨_, rfl, ?_⟩; replace BK498 := As (blk_below (kb BK498.out) hb); replace HB := As (below_step (kB1 HB.out GE498.out) hb); (try clear hb); have hcz16_0 := cells_16 BK498.out; have hfz16_0 := fun j_ => blk_frozen BK498.out j_))
  go_meet
  case rel => exact ⟨_, (false), kS, H', ⟨by first | omega | exact Nat.le_refl _⟩, ⟨kb BK498.out⟩, ⟨kB1 HB.out GE498.out⟩⟩
 clear HC4
 obtain ⟨kq, x26_3, rfl, HA, HJ3, BK498, HB⟩ := hcut
 cases kq with
 | zero => exact absurd HA.out (by simp [intrusionlaw12_Ipv6Splits.j0])
 | succ kj3 =>
  have H := HA.out
  clear HA
  simp only [intrusionlaw12_Ipv6Splits.j0] at H
  by_cases c17 : x26_3 = true
  ·subst c17
   have H1 : ((intrusionlaw12_lives.f kj3).bind fun t500 => (some t500)) = some r := by rw [if_pos rfl] at H; exact H
   clear H
   have H := H1
   clear H1
   replace H := Option.bind_eq_some_iff.mp H
   obtain ⟨t500, A180, H⟩ := H
   replace H : (some t500) = some r := H
   have A18 := As A180
   clear A180
   obtain rfl := Option.some.inj H
   go_wp2_with (first | ((with_reducible refine gate_callee (f := 10) rfl ?_); refine goesL_ (some 27) rfl rfl Try.func10 (by kernel_rfl) rfl #[] rfl kA ?_; (with_reducible refine (intrusionlaw12_lives.calls kj3  t500 _ A18.out).mono ?_); rintro e w19 ⟨rfl, hb⟩; refine ⟨_, rfl, ?_⟩; replace BK498 := As (blk_below (kb BK498.out) hb); replace HB := As (below_step (kB1 HB.out GE498.out) hb); (try clear hb)))
   go_ret
   exact ⟨kE, by exact kB1 HB.out GE498.out⟩
  replace c17 := Bool.eq_false_iff.mpr c17
  subst c17
  have H1 : ((ipv6_Split.f kj3 d0 d1 d2 d3 d4 d5 d6 d7 d8 d9 l0_10 d11 d12 d13 d14 d15 a1 a2).bind fun bt501 => ((intrusionref12_Split.f kj3 d0 d1 d2 d3 d4 d5 d6 d7 d8 d9 l0_10 d11 d12 d13 d14 d15 a1 a2).bind fun bt505 => ((intrusionref12_All.f kj3 bt501.1 bt505.1).bind fun t509 => (if t509 = true then (if bt501.2 = bt505.2 then ((intrusionlaw12_lives.f kj3).bind fun t510 => (some t510)) else (none)) else (none))))) = some r := by rw [if_neg (show ¬ (false = true) by decide)] at H; exact H
  clear H
  have H := H1
  clear H1
  replace H := Option.bind_eq_some_iff.mp H
  obtain ⟨⟨t501, t504⟩, A200, H⟩ := H
  replace H : ((intrusionref12_Split.f kj3 d0 d1 d2 d3 d4 d5 d6 d7 d8 d9 l0_10 d11 d12 d13 d14 d15 a1 a2).bind fun bt505 => ((intrusionref12_All.f kj3 t501 bt505.1).bind fun t509 => (if t509 = true then (if t504 = bt505.2 then ((intrusionlaw12_lives.f kj3).bind fun t510 => (some t510)) else (none)) else (none)))) = some r := H
  have A20 := As A200
  clear A200
  replace H := Option.bind_eq_some_iff.mp H
  obtain ⟨⟨t505, t508⟩, A210, H⟩ := H
  replace H : ((intrusionref12_All.f kj3 t501 t505).bind fun t509 => (if t509 = true then (if t504 = t508 then ((intrusionlaw12_lives.f kj3).bind fun t510 => (some t510)) else (none)) else (none))) = some r := H
  have A21 := As A210
  clear A210
  replace H := Option.bind_eq_some_iff.mp H
  obtain ⟨t509, A220, H⟩ := H
  replace H : (if t509 = true then (if t504 = t508 then ((intrusionlaw12_lives.f kj3).bind fun t510 => (some t510)) else (none)) else (none)) = some r := H
  have A22 := As A220
  clear A220
  by_cases c23 : t509 = true
  ·subst c23
   have H1 : (if t504 = t508 then ((intrusionlaw12_lives.f kj3).bind fun t510 => (some t510)) else (none)) = some r := by rw [if_pos rfl] at H; exact H
   clear H
   have H := H1
   clear H1
   by_cases c24 : t504 = t508
   ·rw [if_pos c24] at H
    have c24b0 : (t504 == t508) = true := beq_iff_eq.mpr c24
    have c24b1 : (t504 != t508) = false := bne_eq_false_iff_eq.mpr c24
    clear c24
    replace H := Option.bind_eq_some_iff.mp H
    obtain ⟨t510, A250, H⟩ := H
    replace H : (some t510) = some r := H
    have A25 := As A250
    clear A250
    obtain rfl := Option.some.inj H
    go_wp2_with (first | ((with_reducible refine gate_dst (N := 29) rfl ?_); (try (refine gate_guard (by rfl) ?_; dsimp only)); refine wpList_load_row rfl 28 _ rfl gb498 rfl 28 _ (0, 0) _ (kb BK498.out) Try.underlying28 rfl (by kernel_rfl) ?_) | ((with_reducible refine gate_callee (f := 17) rfl ?_); refine goesL_ (some 32) rfl rfl Try.func17 (by kernel_rfl) rfl #[.agg #[.int .i64 d0, .int .i64 d1, .int .i64 d2, .int .i64 d3, .bool d4, .int .u64 d5, .int .u64 d6, .bool d7, .int .u64 d8, .int .u64 d9, .slice A0_10 l0_10.length c0_10, .bool d11, .int .i64 d12, .int .i64 d13, .bool d14, .string d15], .int .i64 a1, .int .i64 a2] rfl kA ?_; (with_reducible refine (ipv6_Split.calls kj3 d0 d1 d2 d3 d4 d5 d6 d7 d8 d9 _ _ l0_10 d11 d12 d13 d14 d15 a1 a2 t501 t504 _ ?side1 ?side2 A20.out).mono ?_); (case side1 => repeat (first | exact (Kd.C_below HR0_10.out HB.out) | (with_reducible refine Kd.C_alloc ?_ _) | (with_reducible refine Kd.C_drewN ?_ _) | (with_reducible refine Kd.C_drew ?_))); (case side2 => exact HC0_10.out); rintro e w26 ⟨v502, rfl, ho0, hb⟩; refine ⟨_, rfl, ?_⟩; have HO503 := As (Kd.N_lower (Kd.N_mono (ok' := fun k_ => k_ ≠ gb498) (Kd.S_N (Kd.S_bound ho0)) (fun k_ hk_ => (Kd.freshB (kb BK498.out) k_ hk_.2.1))) (below_size (kB1 HB.out GE498.out))); replace BK498 := As (blk_below (kb BK498.out) hb); replace HB := As (below_step (kB1 HB.out GE498.out) hb); (try clear hb); (try clear ho0)) | ((with_reducible refine gate_dst (N := 36) rfl ?_); (try (refine gate_guard (by rfl) ?_; dsimp only)); refine wpList_load_row rfl 28 _ rfl gb498 rfl 28 _ (0, 0) _ (kb BK498.out) Try.underlying28 rfl (by kernel_rfl) ?_) | ((with_reducible refine gate_callee (f := 18) rfl ?_); refine goesL_ (some 39) rfl rfl Try.func18 (by kernel_rfl) rfl #[.agg #[.int .i64 d0, .int .i64 d1, .int .i64 d2, .int .i64 d3, .bool d4, .int .u64 d5, .int .u64 d6, .bool d7, .int .u64 d8, .int .u64 d9, .slice A0_10 l0_10.length c0_10, .bool d11, .int .i64 d12, .int .i64 d13, .bool d14, .string d15], .int .i64 a1, .int .i64 a2] rfl kA ?_; (with_reducible refine (intrusionref12_Split.calls kj3 d0 d1 d2 d3 d4 d5 d6 d7 d8 d9 (fun k_ => k_ < w.heap.size) _ _ l0_10 d11 d12 d13 d14 d15 a1 a2 t505 t508 _ ?side1 A21.out).mono ?_); (case side1 => exact Kd.V_mk HC0_10.out (Kd.F_below (Kd.C_F k60_heap HR0_10.out) (kB1 HB.out GE498.out))); rintro e w27 ⟨v506, rfl, ho0, hb⟩; refine ⟨_, rfl, ?_⟩; have HO507 := As (Kd.N_lower (Kd.N_mono (ok' := fun k_ => some k_ ≠ (v502 : Value).ownBlock ∧ k_ ≠ gb498) ho0 (fun k_ hk_ => ⟨Or.elim hk_ (fun hs_ => fun e_ => Nat.not_le.2 hs_ (Kd.N_base HO503.out k_ e_.symm)) (fun hn_ => (Kd.fresh' (Kd.N_lt (by (with_reducible repeat (first | apply Kd.N_alloc | apply Kd.N_drewN | apply Kd.N_drew)); exact HO503.out)) k_ hn_)), Or.elim hk_ (fun hs_ => fun e_ => Nat.not_le.2 hs_ (by rw [e_]; exact GW498.out)) (fun hn_ => (Kd.freshB (kb BK498.out) k_ hn_))⟩)) (below_size (kB1 HB.out GE498.out))); replace HO503 := As (Kd.N_elder' (by (with_reducible repeat (first | apply Kd.N_alloc | apply Kd.N_drewN | apply Kd.N_drew)); exact HO503.out) (Kd.N_base ho0) hb); replace BK498 := As (blk_below (kb BK498.out) hb); replace HB := As (below_step (kB1 HB.out GE498.out) hb); (try clear hb); (try clear ho0); obtain ⟨Ao28, co28, eo28⟩ := Kd.N_slice HO503.out; subst eo28; obtain ⟨Ao29, co29, eo29⟩ := Kd.N_slice HO507.out; subst eo29) | ((with_reducible refine gate_callee (f := 19) rfl ?_); refine goesL_ (some 44) rfl rfl Try.func19 (by kernel_rfl) rfl #[.slice Ao28 t501.length co28, .slice Ao29 t505.length co29] rfl kA ?_; (with_reducible refine (intrusionref12_All.calls kj3 _ _ t501 _ _ t505 true _ ?side1 ?side2 ?side3 ?side4 A22.out).mono ?_); (case side1 => repeat (first | exact (Kd.N_reads' HO503.out).2.2 | (with_reducible refine Kd.C_alloc ?_ _) | (with_reducible refine Kd.C_drewN ?_ _) | (with_reducible refine Kd.C_drew ?_))); (case side2 => exact (Kd.N_reads' HO503.out).2.1); (case side3 => repeat (first | exact (Kd.N_reads' HO507.out).2.2 | (with_reducible refine Kd.C_alloc ?_ _) | (with_reducible refine Kd.C_drewN ?_ _) | (with_reducible refine Kd.C_drew ?_))); (case side4 => exact (Kd.N_reads' HO507.out).2.1); rintro e w30 ⟨rfl, hb⟩; refine ⟨_, rfl, ?_⟩; replace HO503 := As (Kd.N_below (by (with_reducible repeat (first | apply Kd.N_alloc | apply Kd.N_drewN | apply Kd.N_drew)); exact HO503.out) hb); replace HO507 := As (Kd.N_below (by (with_reducible repeat (first | apply Kd.N_alloc | apply Kd.N_drewN | apply Kd.N_drew)); exact HO507.out) hb); replace BK498 := As (blk_below (kb BK498.out) hb); replace HB := As (below_step (kB1 HB.out GE498.out) hb); (try clear hb)) | (go_at_call 10; (with_reducible refine (intrusionlaw12_lives.calls kj3  t510 _ A25.out).mono ?_); rintro e w31 ⟨rfl, hb⟩; replace HO503 := As (Kd.N_below (by (with_reducible repeat (first | apply Kd.N_alloc | apply Kd.N_drewN | apply Kd.N_drew)); exact HO503.out) hb); replace HO507 := As (Kd.N_below (by (with_reducible repeat (first | apply Kd.N_alloc | apply Kd.N_drewN | apply Kd.N_drew)); exact HO507.out) hb); replace BK498 := As (blk_below (kb BK498.out) hb); replace HB := As (below_step (kB1 HB.out GE498.out) hb); (try clear hb)))
    go_ret
    exact ⟨kE, by exact kB1 HB.out GE498.out⟩
   rw [if_neg c24] at H
   exact absurd H (by simp)
  replace c23 := Bool.eq_false_iff.mpr c23
  subst c23
  have H1 : (none) = some r := by rw [if_neg (show ¬ (false = true) by decide)] at H; exact H
  clear H
  have H := H1
  clear H1
  exact absurd H (by simp)

end Go.Proofs.Ytljboandbjahdaa.X
-- short
