/- Functions and their walks, printed by xprint.py. -/
import Derived.Test.YtobioaommmgehaaX0
import Derived.Test.YtobioaommmgehaaX7
import Derived.Test.YtobioaommmgehaaX10
import Derived.Test.YtobioaommmgehaaX12
import Derived.Test.YtobioaommmgehaaX13
namespace Go.Proofs.Ytobioaommmgehaa.X
open Go.RowKit Go.Proofs.YtobioaommmgehaaW.PrintWords Go.Proofs.YtobioaommmgehaaW.PrintLast Go.Proofs.YtobioaommmgehaaW.PrintMore
attribute [local go_sem] max2_int min2_int max_two min_two max_three min_three max_four min_four   -- for this text's walks alone
set_option linter.unusedVariables false
set_option linter.unusedSimpArgs false

/-! ### intrusionlaw11_Ipv4RoundTrip: function 6 -/
def intrusionlaw11_Ipv4RoundTrip.j0 : Nat → ByteArray → Bool → Int → Int → Int → Int → Bool → Bool → Int → Bool → Int → Int → Bool → Int → Int → List (S50) → ByteArray → Option (Bool)
 | 0, _, _, _, _, _, _, _, _, _, _, _, _, _, _, _, _, _ => none
 | k + 1, x1, x15, b0, b1, b2, b3, b4, b5, b6, b7, b8, b9, b10, b11, b12, b13, b14 => if x15 = true then ((intrusionlaw11_awake.f k).bind fun t546 => (some t546)) else ((ipv4_Encode.f k b0 b1 b2 b3 b4 b5 b6 b7 b8 b9 b10 b11 b12 b13 b14).bind fun bt547 => (if bt547.2 = 0 then (if bt547.1.size + x1.size ≤ 9223372036854775807 then ((ipv4_Decode.f k (bt547.1 ++ x1)).bind fun bt549 => (if bt549.2.2.2.2.2.2.2.2.2.2.2.2.2.2.2 = 0 then ((intrusionlaw11_same.f k b0 b1 b2 b3 b4 b5 b6 b7 b8 b9 b10 b11 b12 b13 b14 bt549.1 bt549.2.1 bt549.2.2.1 bt549.2.2.2.1 bt549.2.2.2.2.1 bt549.2.2.2.2.2.1 bt549.2.2.2.2.2.2.1 bt549.2.2.2.2.2.2.2.1 bt549.2.2.2.2.2.2.2.2.1 bt549.2.2.2.2.2.2.2.2.2.1 bt549.2.2.2.2.2.2.2.2.2.2.1 bt549.2.2.2.2.2.2.2.2.2.2.2.1 bt549.2.2.2.2.2.2.2.2.2.2.2.2.1 bt549.2.2.2.2.2.2.2.2.2.2.2.2.2.1 bt549.2.2.2.2.2.2.2.2.2.2.2.2.2.2.1).bind fun t568 => (if t568 = true then ((intrusionlaw11_awake.f k).bind fun t569 => (some t569)) else (none))) else (none))) else (none)) else (if bt547.1.toList = ([] : List UInt8) then ((intrusionlaw11_awake.f k).bind fun t570 => (some t570)) else (none))))
def intrusionlaw11_Ipv4RoundTrip.f (k : Nat) (d0 : Int) (d1 : Int) (d2 : Int) (d3 : Int) (d4 : Bool) (d5 : Bool) (d6 : Int) (d7 : Bool) (d8 : Int) (d9 : Int) (d10 : Bool) (d11 : Int) (d12 : Int) (l0_13 : List (S50)) (d14 : ByteArray) (a1 : ByteArray) : Option (Bool) := (intrusionlaw11_large.f d0 d1 d2 d3 d4 d5 d6 d7 d8 d9 d10 d11 d12 l0_13 d14).bind fun t545 => (if t545 = true then (intrusionlaw11_Ipv4RoundTrip.j0 k a1 true d0 d1 d2 d3 d4 d5 d6 d7 d8 d9 d10 d11 d12 l0_13 d14) else (intrusionlaw11_Ipv4RoundTrip.j0 k a1 (decide ((a1.size : Int) > 1000)) d0 d1 d2 d3 d4 d5 d6 d7 d8 d9 d10 d11 d12 l0_13 d14))
theorem intrusionlaw11_Ipv4RoundTrip.mono_l : ∀ k, (∀ y0 y1 y2 y3 y4 y5 y6 y7 y8 y9 y10 y11 y12 y13 y14 y15 y16, LeO (intrusionlaw11_Ipv4RoundTrip.j0 k y0 y1 y2 y3 y4 y5 y6 y7 y8 y9 y10 y11 y12 y13 y14 y15 y16) (intrusionlaw11_Ipv4RoundTrip.j0 (k + 1) y0 y1 y2 y3 y4 y5 y6 y7 y8 y9 y10 y11 y12 y13 y14 y15 y16))
 | 0 => fun _ _ _ _ _ _ _ _ _ _ _ _ _ _ _ _ _ r h => by simp [intrusionlaw11_Ipv4RoundTrip.j0] at h
 | k + 1 => by
  have ih0 := intrusionlaw11_Ipv4RoundTrip.mono_l k
  intro y0 y1 y2 y3 y4 y5 y6 y7 y8 y9 y10 y11 y12 y13 y14 y15 y16
  unfold intrusionlaw11_Ipv4RoundTrip.j0
  repeat' first | with_reducible first | apply ih0 | apply intrusionlaw11_awake.mono | apply intrusionlaw11_same.mono | apply ipv4_Decode.mono | apply ipv4_Encode.mono | apply LeO.refl | apply LeO.none | refine LeO.ite ?_ ?_ | refine LeO.bind ?_ (fun _ => ?_)
theorem intrusionlaw11_Ipv4RoundTrip.mono : ∀ a0 a1 a2 a3 a4 a5 a6 a7 a8 a9 a10 a11 a12 a13 a14 a15 k, LeO (intrusionlaw11_Ipv4RoundTrip.f k a0 a1 a2 a3 a4 a5 a6 a7 a8 a9 a10 a11 a12 a13 a14 a15) (intrusionlaw11_Ipv4RoundTrip.f (k + 1) a0 a1 a2 a3 a4 a5 a6 a7 a8 a9 a10 a11 a12 a13 a14 a15) := by
 intro a0 a1 a2 a3 a4 a5 a6 a7 a8 a9 a10 a11 a12 a13 a14 a15 k
 have ih0 := intrusionlaw11_Ipv4RoundTrip.mono_l k
 unfold intrusionlaw11_Ipv4RoundTrip.f
 repeat' first | with_reducible first | apply ih0 | apply intrusionlaw11_awake.mono | apply intrusionlaw11_same.mono | apply ipv4_Decode.mono | apply ipv4_Encode.mono | apply LeO.refl | apply LeO.none | refine LeO.ite ?_ ?_ | refine LeO.bind ?_ (fun _ => ?_)
set_option maxHeartbeats 8000000 in
set_option maxRecDepth 100000 in
theorem intrusionlaw11_Ipv4RoundTrip.calls (k : Nat) (d0 : Int) (d1 : Int) (d2 : Int) (d3 : Int) (d4 : Bool) (d5 : Bool) (d6 : Int) (d7 : Bool) (d8 : Int) (d9 : Int) (d10 : Bool) (d11 : Int) (d12 : Int) (A0_13 : Option Addr) (c0_13 : Nat) (l0_13 : List (S50)) (d14 : ByteArray) (a1 : ByteArray) (r : Bool) (w : World) (hr0_13 : Kd.C k50 w A0_13 l0_13.length l0_13) (hc0_13 : l0_13.length ≤ c0_13) (h : intrusionlaw11_Ipv4RoundTrip.f k d0 d1 d2 d3 d4 d5 d6 d7 d8 d9 d10 d11 d12 l0_13 d14 a1 = some r) :
  Calls Try.prog 6 #[.agg #[.int .i64 d0, .int .i64 d1, .int .i64 d2, .int .i64 d3, .bool d4, .bool d5, .int .i64 d6, .bool d7, .int .u64 d8, .int .u64 d9, .bool d10, .int .u64 d11, .int .u64 d12, .slice A0_13 l0_13.length c0_13, .string d14], .string a1] w fun e w' => e = .returned (.bool r) ∧ Below w.heap.size w w' := by
 have hu28 := Try.underlying28
 have HR0_13 := As hr0_13
 have HC0_13 := As hc0_13
 clear hr0_13 hc0_13
 have HB := As (Below.refl w.heap.size w)
 have H : ((intrusionlaw11_large.f d0 d1 d2 d3 d4 d5 d6 d7 d8 d9 d10 d11 d12 l0_13 d14).bind fun t545 => (if t545 = true then (intrusionlaw11_Ipv4RoundTrip.j0 k a1 true d0 d1 d2 d3 d4 d5 d6 d7 d8 d9 d10 d11 d12 l0_13 d14) else (intrusionlaw11_Ipv4RoundTrip.j0 k a1 (decide ((a1.size : Int) > 1000)) d0 d1 d2 d3 d4 d5 d6 d7 d8 d9 d10 d11 d12 l0_13 d14))) = some r := h
 clear h
 have HC3 := As H
 clear H
 go_enter Try.func6, Try.ntmps6
 go_upto_region 1 with (first | ((with_reducible refine gate_dst (N := 2) rfl ?_); (try (refine gate_guard (by rfl) ?_; dsimp only)); refine box_event rfl (N := 2) rfl (cs := #[.int .i64 d0, .int .i64 d1, .int .i64 d2, .int .i64 d3, .bool d4, .bool d5, .int .i64 d6, .bool d7, .int .u64 d8, .int .u64 d9, .bool d10, .int .u64 d11, .int .u64 d12, .slice A0_13 l0_13.length c0_13, .string d14]) (t := 28) kG ?_; intro gb544 hg w4 hbox hb; have BK544 := As (hbox); have GW544 := As (gS hg (below_size (kB HB.out))); have GE544 := As (gS hg (below_size (kB HB.out))); replace HB := As (below_step (kB HB.out) hb); clear hb hbox hg))
 (try simp only [Act.put, sA, sZ, sS])
 go_cut [15] (fun v15 wc => ∃ (kq : Nat) (x15_2 : Bool), v15 = .bool x15_2 ∧ Aside0 (intrusionlaw11_Ipv4RoundTrip.j0 kq a1 x15_2 d0 d1 d2 d3 d4 d5 d6 d7 d8 d9 d10 d11 d12 l0_13 d14 = some r) ∧ Aside0 (kq ≤ k) ∧ Aside0 (wc.heap[gb544]? = some (.cells #[.int .i64 d0, .int .i64 d1, .int .i64 d2, .int .i64 d3, .bool d4, .bool d5, .int .i64 d6, .bool d7, .int .u64 d8, .int .u64 d9, .bool d10, .int .u64 d11, .int .u64 d12, (.slice A0_13 l0_13.length c0_13), .string d14] 28 (0, 0))) ∧ Aside0 (Below w.heap.size w wc))
 case first =>
  have H := HC3.out
  clear HC3
  replace H := bS H
  obtain ⟨t545, A5, H⟩ := H
  by_cases c6 : t545 = true
  ·subst c6
   rw [if_pos rfl] at H
   have H' := As H
   clear H
   go_wp2_with (first | ((with_reducible refine gate_dst (N := 9) rfl ?_); (try (refine gate_guard (by rfl) ?_; dsimp only)); refine wpList_load_row rfl 28 _ rfl gb544 rfl 28 _ (0, 0) _ (kb BK544.out) Try.underlying28 rfl (by kernel_rfl) ?_) | ((with_reducible refine gate_callee (f := 14) rfl ?_); refine goesL_ (some 10) rfl rfl Try.func14 (by kernel_rfl) rfl #[.agg #[.int .i64 d0, .int .i64 d1, .int .i64 d2, .int .i64 d3, .bool d4, .bool d5, .int .i64 d6, .bool d7, .int .u64 d8, .int .u64 d9, .bool d10, .int .u64 d11, .int .u64 d12, .slice A0_13 l0_13.length c0_13, .string d14]] rfl kA ?_; (with_reducible refine (intrusionlaw11_large.calls d0 d1 d2 d3 d4 d5 d6 d7 d8 d9 d10 d11 d12 _ _ l0_13 d14 true _ ?side1 ?side2 A5.out).mono ?_); (case side1 => repeat (first | exact (Kd.C_below HR0_13.out HB.out) | (with_reducible refine Kd.C_alloc ?_ _) | (with_reducible refine Kd.C_drewN ?_ _) | (with_reducible refine Kd.C_drew ?_))); (case side2 => exact HC0_13.out); rintro e w7 ⟨rfl, hb⟩; refine ⟨_, rfl, ?_⟩; replace BK544 := As (blk_below (kb BK544.out) hb); replace HB := As (below_step (kB1 HB.out GE544.out) hb); (try clear hb)))
   go_meet
   case rel => exact ⟨_, (true), kS, H', ⟨by first | omega | exact Nat.le_refl _⟩, ⟨kb BK544.out⟩, ⟨kB1 HB.out GE544.out⟩⟩
  replace c6 := Bool.eq_false_iff.mpr c6
  subst c6
  rw [if_neg (show ¬ (false = true) by decide)] at H
  have H' := As H
  clear H
  go_wp2_with (first | ((with_reducible refine gate_dst (N := 9) rfl ?_); (try (refine gate_guard (by rfl) ?_; dsimp only)); refine wpList_load_row rfl 28 _ rfl gb544 rfl 28 _ (0, 0) _ (kb BK544.out) Try.underlying28 rfl (by kernel_rfl) ?_) | ((with_reducible refine gate_callee (f := 14) rfl ?_); refine goesL_ (some 10) rfl rfl Try.func14 (by kernel_rfl) rfl #[.agg #[.int .i64 d0, .int .i64 d1, .int .i64 d2, .int .i64 d3, .bool d4, .bool d5, .int .i64 d6, .bool d7, .int .u64 d8, .int .u64 d9, .bool d10, .int .u64 d11, .int .u64 d12, .slice A0_13 l0_13.length c0_13, .string d14]] rfl kA ?_; (with_reducible refine (intrusionlaw11_large.calls d0 d1 d2 d3 d4 d5 d6 d7 d8 d9 d10 d11 d12 _ _ l0_13 d14 false _ ?side1 ?side2 A5.out).mono ?_); (case side1 => repeat (first | exact (Kd.C_below HR0_13.out HB.out) | (with_reducible refine Kd.C_alloc ?_ _) | (with_reducible refine Kd.C_drewN ?_ _) | (with_reducible refine Kd.C_drew ?_))); (case side2 => exact HC0_13.out); rintro e w8 ⟨rfl, hb⟩; refine ⟨_, rfl, ?_⟩; replace BK544 := As (blk_below (kb BK544.out) hb); replace HB := As (below_step (kB1 HB.out GE544.out) hb); (try clear hb)))
  go_meet
  case rel => exact ⟨_, (decide ((a1.size : Int) > 1000)), kS, H', ⟨by first | omega | exact Nat.le_refl _⟩, ⟨kb BK544.out⟩, ⟨kB1 HB.out GE544.out⟩⟩
 clear HC3
 obtain ⟨kq, x15_2, rfl, HA, HJ2, BK544, HB⟩ := hcut
 cases kq with
 | zero => exact absurd HA.out (by simp [intrusionlaw11_Ipv4RoundTrip.j0])
 | succ kj2 =>
  have H := HA.out
  clear HA
  simp only [intrusionlaw11_Ipv4RoundTrip.j0] at H
  by_cases c9 : x15_2 = true
  ·subst c9
   rw [if_pos rfl] at H
   replace H := bS H
   obtain ⟨t546, A10, H⟩ := H
   obtain rfl := Option.some.inj H
   go_wp2_with (first | ((with_reducible refine gate_callee (f := 10) rfl ?_); refine goesL_ (some 16) rfl rfl Try.func10 (by kernel_rfl) rfl #[] rfl kA ?_; (with_reducible refine (intrusionlaw11_awake.calls kj2  t546 _ A10.out).mono ?_); rintro e w11 ⟨rfl, hb⟩; refine ⟨_, rfl, ?_⟩; replace BK544 := As (blk_below (kb BK544.out) hb); replace HB := As (below_step (kB1 HB.out GE544.out) hb); (try clear hb)))
   go_ret
   exact ⟨kE, by exact kB1 HB.out GE544.out⟩
  replace c9 := Bool.eq_false_iff.mpr c9
  subst c9
  rw [if_neg (show ¬ (false = true) by decide)] at H
  replace H := bS H
  obtain ⟨⟨t547, t548⟩, A12, H⟩ := H
  try dsimp -simprocs only at H
  by_cases c13 : t548 = 0
  ·rw [if_pos c13] at H
   have c13b0 : (t548 == 0) = true := beq_iff_eq.mpr c13
   have c13b1 : (t548 != 0) = false := bne_eq_false_iff_eq.mpr c13
   clear c13
   replace H := iS H
   obtain ⟨c14, H⟩ := H
   have c14b0 := eq_true c14
   have c14b1 := decide_eq_true c14
   try have c14b2 := eq_false (Nat.not_lt.2 c14)
   replace H := bS H
   obtain ⟨⟨t549, t550, t551, t552, t553, t554, t555, t556, t557, t558, t559, t560, t561, t562, t565, t566⟩, A15, H⟩ := H
   try dsimp -simprocs only at H
   replace H := iS H
   obtain ⟨c16, H⟩ := H
   have c16b0 : (t566 == 0) = true := beq_iff_eq.mpr c16
   have c16b1 : (t566 != 0) = false := bne_eq_false_iff_eq.mpr c16
   clear c16
   replace H := bS H
   obtain ⟨t568, A17, H⟩ := H
   by_cases c18 : t568 = true
   ·subst c18
    rw [if_pos rfl] at H
    replace H := bS H
    obtain ⟨t569, A19, H⟩ := H
    obtain rfl := Option.some.inj H
    go_wp2_with (first | ((with_reducible refine gate_dst (N := 18) rfl ?_); (try (refine gate_guard (by rfl) ?_; dsimp only)); refine wpList_load_row rfl 28 _ rfl gb544 rfl 28 _ (0, 0) _ (kb BK544.out) Try.underlying28 rfl (by kernel_rfl) ?_) | ((with_reducible refine gate_callee (f := 15) rfl ?_); refine goesL_ (some 19) rfl rfl Try.func15 (by kernel_rfl) rfl #[.agg #[.int .i64 d0, .int .i64 d1, .int .i64 d2, .int .i64 d3, .bool d4, .bool d5, .int .i64 d6, .bool d7, .int .u64 d8, .int .u64 d9, .bool d10, .int .u64 d11, .int .u64 d12, .slice A0_13 l0_13.length c0_13, .string d14]] rfl kA ?_; (with_reducible refine (ipv4_Encode.calls kj2 d0 d1 d2 d3 d4 d5 d6 d7 d8 d9 d10 d11 d12 _ _ l0_13 d14 t547 t548 _ ?side1 ?side2 A12.out).mono ?_); (case side1 => repeat (first | exact (Kd.C_below HR0_13.out HB.out) | (with_reducible refine Kd.C_alloc ?_ _) | (with_reducible refine Kd.C_drewN ?_ _) | (with_reducible refine Kd.C_drew ?_))); (case side2 => exact HC0_13.out); rintro e w20 ⟨rfl, hb⟩; refine ⟨_, rfl, ?_⟩; replace BK544 := As (blk_below (kb BK544.out) hb); replace HB := As (below_step (kB1 HB.out GE544.out) hb); (try clear hb)) | ((with_reducible refine gate_callee (f := 11) rfl ?_); refine goesL_ (some 33) rfl rfl Try.func11 (by kernel_rfl) rfl #[.string (t547 ++ a1)] rfl kA ?_; (with_reducible refine (ipv4_Decode.calls kj2 (t547 ++ a1) t549 t550 t551 t552 t553 t554 t555 t556 t557 t558 t559 t560 t561 t562 t565 t566 _ A15.out).mono ?_); rintro e w21 ⟨v563, rfl, ho0, hb⟩; refine ⟨_, rfl, ?_⟩; have HO564 := As (Kd.R_lower ho0 (below_size (kB1 HB.out GE544.out))); replace BK544 := As (blk_below (kb BK544.out) hb); replace HB := As (below_step (kB1 HB.out GE544.out) hb); (try clear hb); (try clear ho0)) | ((with_reducible refine gate_dst (N := 7) rfl ?_); (try (refine gate_guard (by rfl) ?_; dsimp only)); refine box_event rfl (N := 7) rfl (cs := #[.int .i64 0, .int .i64 0, .int .i64 0, .int .i64 0, .bool false, .bool false, .int .i64 0, .bool false, .int .u64 0, .int .u64 0, .bool false, .int .u64 0, .int .u64 0, .slice none 0 0, .string (⟨#[]⟩ : ByteArray)]) (t := 28) kG ?_; intro gb567 hg w22 hbox hb; replace HO564 := As (Kd.R_below (kR HO564.out) hb); have BK567 := As (hbox); have GW567 := As (gS hg (below_size (kB1 HB.out GE544.out))); have GE567 := As (gS hg (below_size (kB1 HB.out GE544.out))); replace HB := As (below_step (kB1 HB.out GE544.out) hb); have NB544_567 := As (gN hg (blk_lt (kb BK544.out))); have NB567_544 := As (gM hg (blk_lt (kb BK544.out))); replace BK544 := As (blk_below (kb BK544.out) hb); clear hb hbox hg; obtain ⟨Ao23, co23, eo23⟩ := Kd.R_slice HO564.out; subst eo23) | ((with_reducible refine gate_store (t := 28) (p := 7) rfl ?_); refine store_rowev_15 gb567 (.int .i64 t549) (.int .i64 t550) (.int .i64 t551) (.int .i64 t552) (.bool t553) (.bool t554) (.int .i64 t555) (.bool t556) (.int .u64 t557) (.int .u64 t558) (.bool t559) (.int .u64 t560) (.int .u64 t561) (.slice Ao23 t562.length co23) (.string t565) rfl (t := 28) (p := 7) (v := _) rfl rfl rfl rfl (t' := 28) (kb BK567.out) (by rfl) (by kernel_rfl) (by rfl) ?_) | ((with_reducible refine gate_dst (N := 39) rfl ?_); (try (refine gate_guard (by rfl) ?_; dsimp only)); refine wpList_load_row ?hgd 28 _ rfl gb544 rfl 28 #[.int .i64 d0, .int .i64 d1, .int .i64 d2, .int .i64 d3, .bool d4, .bool d5, .int .i64 d6, .bool d7, .int .u64 d8, .int .u64 d9, .bool d10, .int .u64 d11, .int .u64 d12, .slice A0_13 l0_13.length c0_13, .string d14] (0, 0) _ (by refine kb ?_; (iterate 15 (refine blk_far ?_ NB544_567.out _; refine kb ?_)); exact BK544.out) Try.underlying28 rfl (by kernel_rfl) ?_; (case hgd => rfl)) | ((with_reducible refine gate_dst (N := 40) rfl ?_); (try (refine gate_guard (by rfl) ?_; dsimp only)); refine wpList_load_row ?hgd 28 _ rfl gb567 rfl 28 #[.int .i64 t549, .int .i64 t550, .int .i64 t551, .int .i64 t552, .bool t553, .bool t554, .int .i64 t555, .bool t556, .int .u64 t557, .int .u64 t558, .bool t559, .int .u64 t560, .int .u64 t561, .slice Ao23 t562.length co23, .string t565] (0, 0) _ (by refine kb ?_; exact blk_all_15 (kb BK567.out) (by rfl)) Try.underlying28 rfl (by kernel_rfl) ?_; (case hgd => rfl)) | (go_at_call 13; (with_reducible refine (intrusionlaw11_same.calls kj2 d0 d1 d2 d3 d4 d5 d6 d7 d8 d9 d10 d11 d12 _ _ l0_13 d14 t549 t550 t551 t552 t553 t554 t555 t556 t557 t558 t559 t560 t561 _ _ t562 t565 true _ ?side1 ?side2 ?side3 ?side4 A17.out).mono ?_); (case side1 => exact Kd.C_below HR0_13.out (kB2 HB.out GE544.out GE567.out)); (case side2 => exact HC0_13.out); (case side3 => refine (Kd.R_reads' (e := 50) (base := w.heap.size) (ok := fun k_ => True) (n := t562.length) (c := co23) ?_).2.2; exact (by refine kR ?_; exact (Kd.R_mono (Kd.R_puts_0_15 gb567 (.int .i64 t549) (.int .i64 t550) (.int .i64 t551) (.int .i64 t552) (.bool t553) (.bool t554) (.int .i64 t555) (.bool t556) (.int .u64 t557) (.int .u64 t558) (.bool t559) (.int .u64 t560) (.int .u64 t561) (.slice Ao23 t562.length co23) (.string t565) (Kd.R_types HO564.out BK567.out (by decide)) (fun _ hk => hk.2)) (fun _ h_ => h_.1)))); (case side4 => exact (Kd.R_reads' HO564.out).2.1); rintro e w24 ⟨rfl, hb⟩; replace HO564 := As (Kd.R_below (by refine kR ?_; exact (Kd.R_mono (Kd.R_puts_0_15 gb567 (.int .i64 t549) (.int .i64 t550) (.int .i64 t551) (.int .i64 t552) (.bool t553) (.bool t554) (.int .i64 t555) (.bool t556) (.int .u64 t557) (.int .u64 t558) (.bool t559) (.int .u64 t560) (.int .u64 t561) (.slice Ao23 t562.length co23) (.string t565) (Kd.R_types HO564.out BK567.out (by decide)) (fun _ hk => hk.2)) (fun _ h_ => h_.1))) hb); replace BK544 := As (blk_below (g := gb544) (o := .cells #[.int .i64 d0, .int .i64 d1, .int .i64 d2, .int .i64 d3, .bool d4, .bool d5, .int .i64 d6, .bool d7, .int .u64 d8, .int .u64 d9, .bool d10, .int .u64 d11, .int .u64 d12, .slice A0_13 l0_13.length c0_13, .string d14] 28 (0, 0)) (by refine kb ?_; (iterate 15 (refine blk_far ?_ NB544_567.out _; refine kb ?_)); exact BK544.out) hb); replace BK567 := As (blk_below (g := gb567) (o := .cells #[.int .i64 t549, .int .i64 t550, .int .i64 t551, .int .i64 t552, .bool t553, .bool t554, .int .i64 t555, .bool t556, .int .u64 t557, .int .u64 t558, .bool t559, .int .u64 t560, .int .u64 t561, .slice Ao23 t562.length co23, .string t565] 28 (0, 0)) (by refine kb ?_; exact blk_all_15 (kb BK567.out) (by rfl)) hb); replace HB := As (below_step (kB2 HB.out GE544.out GE567.out) hb); (try clear hb); (try clear hk)) | (go_at_call 10; (with_reducible refine (intrusionlaw11_awake.calls kj2  t569 _ A19.out).mono ?_); rintro e w25 ⟨rfl, hb⟩; replace HO564 := As (Kd.R_below (kR HO564.out) hb); replace BK544 := As (blk_below (kb BK544.out) hb); replace BK567 := As (blk_below (kb BK567.out) hb); replace HB := As (below_step (kB2 HB.out GE544.out GE567.out) hb); (try clear hb); (try clear hk)))
    go_ret
    exact ⟨kE, by exact kB2 HB.out GE544.out GE567.out⟩
   replace c18 := Bool.eq_false_iff.mpr c18
   subst c18
   rw [if_neg (show ¬ (false = true) by decide)] at H
   exact absurd H (by simp)
  rw [if_neg c13] at H
  have c13b0 : (t548 == 0) = false := beq_eq_false_iff_ne.mpr c13
  have c13b1 : (t548 != 0) = true := bne_iff_ne.mpr c13
  replace H := iS H
  obtain ⟨c26, H⟩ := H
  have c26b0 : (t547.toList == ([] : List UInt8)) = true := beq_iff_eq.mpr c26
  have c26b1 : (t547.toList != ([] : List UInt8)) = false := bne_eq_false_iff_eq.mpr c26
  have c26b2 : (!t547.toList.isEmpty) = false := by simp [c26]
  have c26b3 : t547.toList.isEmpty = true := by simp [c26]
  clear c26
  replace H := bS H
  obtain ⟨t570, A27, H⟩ := H
  obtain rfl := Option.some.inj H
  go_wp2_with (first | ((with_reducible refine gate_dst (N := 18) rfl ?_); (try (refine gate_guard (by rfl) ?_; dsimp only)); refine wpList_load_row rfl 28 _ rfl gb544 rfl 28 _ (0, 0) _ (kb BK544.out) Try.underlying28 rfl (by kernel_rfl) ?_) | ((with_reducible refine gate_callee (f := 15) rfl ?_); refine goesL_ (some 19) rfl rfl Try.func15 (by kernel_rfl) rfl #[.agg #[.int .i64 d0, .int .i64 d1, .int .i64 d2, .int .i64 d3, .bool d4, .bool d5, .int .i64 d6, .bool d7, .int .u64 d8, .int .u64 d9, .bool d10, .int .u64 d11, .int .u64 d12, .slice A0_13 l0_13.length c0_13, .string d14]] rfl kA ?_; (with_reducible refine (ipv4_Encode.calls kj2 d0 d1 d2 d3 d4 d5 d6 d7 d8 d9 d10 d11 d12 _ _ l0_13 d14 t547 t548 _ ?side1 ?side2 A12.out).mono ?_); (case side1 => repeat (first | exact (Kd.C_below HR0_13.out HB.out) | (with_reducible refine Kd.C_alloc ?_ _) | (with_reducible refine Kd.C_drewN ?_ _) | (with_reducible refine Kd.C_drew ?_))); (case side2 => exact HC0_13.out); rintro e w28 ⟨rfl, hb⟩; refine ⟨_, rfl, ?_⟩; replace BK544 := As (blk_below (kb BK544.out) hb); replace HB := As (below_step (kB1 HB.out GE544.out) hb); (try clear hb)) | (go_at_call 10; (with_reducible refine (intrusionlaw11_awake.calls kj2  t570 _ A27.out).mono ?_); rintro e w29 ⟨rfl, hb⟩; replace BK544 := As (blk_below (kb BK544.out) hb); replace HB := As (below_step (kB1 HB.out GE544.out) hb); (try clear hb)))
  go_ret
  exact ⟨kE, by exact kB1 HB.out GE544.out⟩

end Go.Proofs.Ytobioaommmgehaa.X
-- short
-- short2
