/- What the functions of the translation that this claim's statement reaches compute, each proved by its walk. Written by xprint.py, a program of this claim's author, run over the kit's printer. -/
import Derived.Test.YtljboandbjahdaaX0
import Derived.Test.YtljboandbjahdaaX6
import Derived.Test.YtljboandbjahdaaX9
import Derived.Test.YtljboandbjahdaaX12
import Derived.Test.YtljboandbjahdaaX13
namespace Go.Proofs.Ytljboandbjahdaa.X
open Go.RowKit Go.Proofs.YtljboandbjahdaaW.PrintWords Go.Proofs.YtljboandbjahdaaW.PrintLast Go.Proofs.YtljboandbjahdaaW.PrintMore
attribute [local go_sem] max2_int min2_int max_two min_two max_three min_three max_four min_four   -- for this text's walks alone
set_option linter.unusedVariables false
set_option linter.unusedSimpArgs false

/-! ### intrusionlaw12_Ipv6RoundTrip: function 7 -/
mutual
def intrusionlaw12_Ipv6RoundTrip.j0 : Nat → ByteArray → Bool → Int → Int → Int → Int → Bool → Int → Int → Bool → Int → Int → List (S60) → Bool → Int → Int → Bool → ByteArray → Option (Bool)
 | 0, _, _, _, _, _, _, _, _, _, _, _, _, _, _, _, _, _, _ => none
 | k + 1, x1, x19, b0, b1, b2, b3, b4, b5, b6, b7, b8, b9, b10, b11, b12, b13, b14, b15 => if x19 = true then (some true) else ((ipv6_Encode.f k b0 b1 b2 b3 b4 b5 b6 b7 b8 b9 b10 b11 b12 b13 b14 b15).bind fun bt548 => (if bt548.2 = 0 then (intrusionlaw12_Ipv6RoundTrip.j1 k x1 bt548.1 bt548.2 (decide ((bt548.1.size : Int) < 40)) b0 b1 b2 b3 b4 b5 b6 b7 b8 b9 b10 b11 b12 b13 b14 b15) else (intrusionlaw12_Ipv6RoundTrip.j1 k x1 bt548.1 bt548.2 true b0 b1 b2 b3 b4 b5 b6 b7 b8 b9 b10 b11 b12 b13 b14 b15)))
def intrusionlaw12_Ipv6RoundTrip.j1 : Nat → ByteArray → ByteArray → Int → Bool → Int → Int → Int → Int → Bool → Int → Int → Bool → Int → Int → List (S60) → Bool → Int → Int → Bool → ByteArray → Option (Bool)
 | 0, _, _, _, _, _, _, _, _, _, _, _, _, _, _, _, _, _, _, _, _ => none
 | k + 1, x1, x5, x6, x31, b0, b1, b2, b3, b4, b5, b6, b7, b8, b9, b10, b11, b12, b13, b14, b15 => if x31 = true then (if x6 = 0 then (none) else (some (x5.toList == ([] : List UInt8)))) else (if x5.size + x1.size ≤ 9223372036854775807 then ((ipv6_Decode.f k (x5 ++ x1)).bind fun bt550 => (if 0 ≤ (wrap64 ((x5.size : Int) - 1)) then (if (wrap64 ((x5.size : Int) - 1)) ≤ (x5.size : Int) then ((ipv6_Decode.f k (x5.extract 0 ((wrap64 ((x5.size : Int) - 1)) : Int).toNat)).bind fun bt570 => ((intrusionref12_Same.f k b0 b1 b2 b3 b4 b5 b6 b7 b8 b9 b10 b11 b12 b13 b14 b15 bt550.1 bt550.2.1 bt550.2.2.1 bt550.2.2.2.1 bt550.2.2.2.2.1 bt550.2.2.2.2.2.1 bt550.2.2.2.2.2.2.1 bt550.2.2.2.2.2.2.2.1 bt550.2.2.2.2.2.2.2.2.1 bt550.2.2.2.2.2.2.2.2.2.1 bt550.2.2.2.2.2.2.2.2.2.2.1 bt550.2.2.2.2.2.2.2.2.2.2.2.1 bt550.2.2.2.2.2.2.2.2.2.2.2.2.1 bt550.2.2.2.2.2.2.2.2.2.2.2.2.2.1 bt550.2.2.2.2.2.2.2.2.2.2.2.2.2.2.1 bt550.2.2.2.2.2.2.2.2.2.2.2.2.2.2.2.1).bind fun t590 => (if t590 = true then (if bt550.2.2.2.2.2.2.2.2.2.2.2.2.2.2.2.2 = 0 then (some (bt570.2.2.2.2.2.2.2.2.2.2.2.2.2.2.2.2 == 1)) else (none)) else (none)))) else (none)) else (none))) else (none))
end
def intrusionlaw12_Ipv6RoundTrip.f (k : Nat) (d0 : Int) (d1 : Int) (d2 : Int) (d3 : Int) (d4 : Bool) (d5 : Int) (d6 : Int) (d7 : Bool) (d8 : Int) (d9 : Int) (l0_10 : List (S60)) (d11 : Bool) (d12 : Int) (d13 : Int) (d14 : Bool) (d15 : ByteArray) (a1 : ByteArray) : Option (Bool) := (intrusionlaw12_lives.f k).bind fun t546 => (if t546 = true then ((intrusionref12_Long.f k d0 d1 d2 d3 d4 d5 d6 d7 d8 d9 l0_10 d11 d12 d13 d14 d15 3000).bind fun t547 => (if t547 = true then (intrusionlaw12_Ipv6RoundTrip.j0 k a1 true d0 d1 d2 d3 d4 d5 d6 d7 d8 d9 l0_10 d11 d12 d13 d14 d15) else (intrusionlaw12_Ipv6RoundTrip.j0 k a1 (decide ((a1.size : Int) > 100)) d0 d1 d2 d3 d4 d5 d6 d7 d8 d9 l0_10 d11 d12 d13 d14 d15))) else (none))
theorem intrusionlaw12_Ipv6RoundTrip.mono_l : ∀ k, (∀ y0 y1 y2 y3 y4 y5 y6 y7 y8 y9 y10 y11 y12 y13 y14 y15 y16 y17, LeO (intrusionlaw12_Ipv6RoundTrip.j0 k y0 y1 y2 y3 y4 y5 y6 y7 y8 y9 y10 y11 y12 y13 y14 y15 y16 y17) (intrusionlaw12_Ipv6RoundTrip.j0 (k + 1) y0 y1 y2 y3 y4 y5 y6 y7 y8 y9 y10 y11 y12 y13 y14 y15 y16 y17)) ∧ (∀ y0 y1 y2 y3 y4 y5 y6 y7 y8 y9 y10 y11 y12 y13 y14 y15 y16 y17 y18 y19, LeO (intrusionlaw12_Ipv6RoundTrip.j1 k y0 y1 y2 y3 y4 y5 y6 y7 y8 y9 y10 y11 y12 y13 y14 y15 y16 y17 y18 y19) (intrusionlaw12_Ipv6RoundTrip.j1 (k + 1) y0 y1 y2 y3 y4 y5 y6 y7 y8 y9 y10 y11 y12 y13 y14 y15 y16 y17 y18 y19))
 | 0 => ⟨fun _ _ _ _ _ _ _ _ _ _ _ _ _ _ _ _ _ _ r h => by simp [intrusionlaw12_Ipv6RoundTrip.j0] at h, fun _ _ _ _ _ _ _ _ _ _ _ _ _ _ _ _ _ _ _ _ r h => by simp [intrusionlaw12_Ipv6RoundTrip.j1] at h⟩
 | k + 1 => by
  obtain ⟨ih0, ih1⟩ := intrusionlaw12_Ipv6RoundTrip.mono_l k
  refine ⟨?_, ?_⟩
  ·intro y0 y1 y2 y3 y4 y5 y6 y7 y8 y9 y10 y11 y12 y13 y14 y15 y16 y17
   unfold intrusionlaw12_Ipv6RoundTrip.j0
   repeat' first | with_reducible first | apply ih0 | apply ih1 | apply intrusionlaw12_lives.mono | apply intrusionref12_Long.mono | apply intrusionref12_Same.mono | apply ipv6_Decode.mono | apply ipv6_Encode.mono | apply LeO.refl | apply LeO.none | refine LeO.ite ?_ ?_ | refine LeO.bind ?_ (fun _ => ?_)
  intro y0 y1 y2 y3 y4 y5 y6 y7 y8 y9 y10 y11 y12 y13 y14 y15 y16 y17 y18 y19
  unfold intrusionlaw12_Ipv6RoundTrip.j1
  repeat' first | with_reducible first | apply ih0 | apply ih1 | apply intrusionlaw12_lives.mono | apply intrusionref12_Long.mono | apply intrusionref12_Same.mono | apply ipv6_Decode.mono | apply ipv6_Encode.mono | apply LeO.refl | apply LeO.none | refine LeO.ite ?_ ?_ | refine LeO.bind ?_ (fun _ => ?_)
theorem intrusionlaw12_Ipv6RoundTrip.mono : ∀ a0 a1 a2 a3 a4 a5 a6 a7 a8 a9 a10 a11 a12 a13 a14 a15 a16 k, LeO (intrusionlaw12_Ipv6RoundTrip.f k a0 a1 a2 a3 a4 a5 a6 a7 a8 a9 a10 a11 a12 a13 a14 a15 a16) (intrusionlaw12_Ipv6RoundTrip.f (k + 1) a0 a1 a2 a3 a4 a5 a6 a7 a8 a9 a10 a11 a12 a13 a14 a15 a16) := by
 intro a0 a1 a2 a3 a4 a5 a6 a7 a8 a9 a10 a11 a12 a13 a14 a15 a16 k
 obtain ⟨ih0, ih1⟩ := intrusionlaw12_Ipv6RoundTrip.mono_l k
 unfold intrusionlaw12_Ipv6RoundTrip.f
 repeat' first | with_reducible first | apply ih0 | apply ih1 | apply intrusionlaw12_lives.mono | apply intrusionref12_Long.mono | apply intrusionref12_Same.mono | apply ipv6_Decode.mono | apply ipv6_Encode.mono | apply LeO.refl | apply LeO.none | refine LeO.ite ?_ ?_ | refine LeO.bind ?_ (fun _ => ?_)
set_option maxHeartbeats 8000000 in
set_option maxRecDepth 100000 in
theorem intrusionlaw12_Ipv6RoundTrip.calls (k : Nat) (d0 : Int) (d1 : Int) (d2 : Int) (d3 : Int) (d4 : Bool) (d5 : Int) (d6 : Int) (d7 : Bool) (d8 : Int) (d9 : Int) (A0_10 : Option Addr) (c0_10 : Nat) (l0_10 : List (S60)) (d11 : Bool) (d12 : Int) (d13 : Int) (d14 : Bool) (d15 : ByteArray) (a1 : ByteArray) (r : Bool) (w : World) (hr0_10 : Kd.C k60 w A0_10 l0_10.length l0_10) (hc0_10 : l0_10.length ≤ c0_10) (h : intrusionlaw12_Ipv6RoundTrip.f k d0 d1 d2 d3 d4 d5 d6 d7 d8 d9 l0_10 d11 d12 d13 d14 d15 a1 = some r) :
  Calls Try.prog 7 #[.agg #[.int .i64 d0, .int .i64 d1, .int .i64 d2, .int .i64 d3, .bool d4, .int .u64 d5, .int .u64 d6, .bool d7, .int .u64 d8, .int .u64 d9, .slice A0_10 l0_10.length c0_10, .bool d11, .int .i64 d12, .int .i64 d13, .bool d14, .string d15], .string a1] w fun e w' => e = .returned (.bool r) ∧ Below w.heap.size w w' := by
 have hu28 := Try.underlying28
 have HR0_10 := As hr0_10
 have HC0_10 := As hc0_10
 clear hr0_10 hc0_10
 have HB := As (Below.refl w.heap.size w)
 have H : ((intrusionlaw12_lives.f k).bind fun t546 => (if t546 = true then ((intrusionref12_Long.f k d0 d1 d2 d3 d4 d5 d6 d7 d8 d9 l0_10 d11 d12 d13 d14 d15 3000).bind fun t547 => (if t547 = true then (intrusionlaw12_Ipv6RoundTrip.j0 k a1 true d0 d1 d2 d3 d4 d5 d6 d7 d8 d9 l0_10 d11 d12 d13 d14 d15) else (intrusionlaw12_Ipv6RoundTrip.j0 k a1 (decide ((a1.size : Int) > 100)) d0 d1 d2 d3 d4 d5 d6 d7 d8 d9 l0_10 d11 d12 d13 d14 d15))) else (none))) = some r := h
 clear h
 replace H := Option.bind_eq_some_iff.mp H
 obtain ⟨t546, A30, H⟩ := H
 replace H : (if t546 = true then ((intrusionref12_Long.f k d0 d1 d2 d3 d4 d5 d6 d7 d8 d9 l0_10 d11 d12 d13 d14 d15 3000).bind fun t547 => (if t547 = true then (intrusionlaw12_Ipv6RoundTrip.j0 k a1 true d0 d1 d2 d3 d4 d5 d6 d7 d8 d9 l0_10 d11 d12 d13 d14 d15) else (intrusionlaw12_Ipv6RoundTrip.j0 k a1 (decide ((a1.size : Int) > 100)) d0 d1 d2 d3 d4 d5 d6 d7 d8 d9 l0_10 d11 d12 d13 d14 d15))) else (none)) = some r := H
 have A3 := As A30
 clear A30
 by_cases c4 : t546 = true
 ·subst c4
  have H1 : ((intrusionref12_Long.f k d0 d1 d2 d3 d4 d5 d6 d7 d8 d9 l0_10 d11 d12 d13 d14 d15 3000).bind fun t547 => (if t547 = true then (intrusionlaw12_Ipv6RoundTrip.j0 k a1 true d0 d1 d2 d3 d4 d5 d6 d7 d8 d9 l0_10 d11 d12 d13 d14 d15) else (intrusionlaw12_Ipv6RoundTrip.j0 k a1 (decide ((a1.size : Int) > 100)) d0 d1 d2 d3 d4 d5 d6 d7 d8 d9 l0_10 d11 d12 d13 d14 d15))) = some r := by rw [if_pos rfl] at H; exact H
  clear H
  have H := H1
  clear H1
  have HC5 := As H
  clear H
  go_enter Try.func7, Try.ntmps7
  go_upto_region 3 with (first | ((with_reducible refine gate_dst (N := 2) rfl ?_); (try (refine gate_guard (by rfl) ?_; dsimp only)); refine box_event rfl (N := 2) rfl (cs := #[.int .i64 d0, .int .i64 d1, .int .i64 d2, .int .i64 d3, .bool d4, .int .u64 d5, .int .u64 d6, .bool d7, .int .u64 d8, .int .u64 d9, .slice A0_10 l0_10.length c0_10, .bool d11, .int .i64 d12, .int .i64 d13, .bool d14, .string d15]) (t := 28) kG ?_; intro gb545 hg w6 hbox hb; have BK545 := As (hbox); have GW545 := As ((by rw [hg]; exact (below_size (kB HB.out)) : w.heap.size ≤ gb545)); have GE545 := As ((by rw [hg]; exact (below_size (kB HB.out)) : w.heap.size ≤ gb545)); replace HB := As (below_step (kB HB.out) hb); clear hb hbox hg) | ((with_reducible refine gate_callee (f := 10) rfl ?_); refine goesL_ (some 11) rfl rfl Try.func10 (by kernel_rfl) rfl #[] rfl kA ?_; (with_reducible refine (intrusionlaw12_lives.calls k  true _ A3.out).mono ?_); rintro e w7 ⟨rfl, hb⟩; refine ⟨_, rfl, ?_⟩; replace BK545 := As (blk_below (kb BK545.out) hb); replace HB := As (below_step (kB1 HB.out GE545.out) hb); (try clear hb)))
  (try simp only [Act.put, sA, sZ, sS])
  go_cut [19] (fun v19 wc => ∃ (kq : Nat) (x19_4 : Bool), v19 = .bool x19_4 ∧ Aside0 (intrusionlaw12_Ipv6RoundTrip.j0 kq a1 x19_4 d0 d1 d2 d3 d4 d5 d6 d7 d8 d9 l0_10 d11 d12 d13 d14 d15 = some r) ∧ Aside0 (kq ≤ k) ∧ Aside0 (wc.heap[gb545]? = some (.cells #[.int .i64 d0, .int .i64 d1, .int .i64 d2, .int .i64 d3, .bool d4, .int .u64 d5, .int .u64 d6, .bool d7, .int .u64 d8, .int .u64 d9, (.slice A0_10 l0_10.length c0_10), .bool d11, .int .i64 d12, .int .i64 d13, .bool d14, .string d15] 28 (0, 0))) ∧ Aside0 (Below w.heap.size w wc))
  case first =>
   have H := HC5.out
   clear HC5
   replace H := Option.bind_eq_some_iff.mp H
   obtain ⟨t547, A80, H⟩ := H
   replace H : (if t547 = true then (intrusionlaw12_Ipv6RoundTrip.j0 k a1 true d0 d1 d2 d3 d4 d5 d6 d7 d8 d9 l0_10 d11 d12 d13 d14 d15) else (intrusionlaw12_Ipv6RoundTrip.j0 k a1 (decide ((a1.size : Int) > 100)) d0 d1 d2 d3 d4 d5 d6 d7 d8 d9 l0_10 d11 d12 d13 d14 d15)) = some r := H
   have A8 := As A80
   clear A80
   by_cases c9 : t547 = true
   ·subst c9
    have H1 : (intrusionlaw12_Ipv6RoundTrip.j0 k a1 true d0 d1 d2 d3 d4 d5 d6 d7 d8 d9 l0_10 d11 d12 d13 d14 d15) = some r := by rw [if_pos rfl] at H; exact H
    clear H
    have H := H1
    clear H1
    have H' := As H
    clear H
    go_wp2_with (first | ((with_reducible refine gate_dst (N := 13) rfl ?_); (try (refine gate_guard (by rfl) ?_; dsimp only)); refine wpList_load_row rfl 28 _ rfl gb545 rfl 28 _ (0, 0) _ (kb BK545.out) Try.underlying28 rfl (by kernel_rfl) ?_) | ((with_reducible refine gate_callee (f := 14) rfl ?_); refine goesL_ (some 14) rfl rfl Try.func14 (by kernel_rfl) rfl #[.agg #[.int .i64 d0, .int .i64 d1, .int .i64 d2, .int .i64 d3, .bool d4, .int .u64 d5, .int .u64 d6, .bool d7, .int .u64 d8, .int .u64 d9, .slice A0_10 l0_10.length c0_10, .bool d11, .int .i64 d12, .int .i64 d13, .bool d14, .string d15], .int .i64 3000] rfl kA ?_; (with_reducible refine (intrusionref12_Long.calls k d0 d1 d2 d3 d4 d5 d6 d7 d8 d9 _ _ l0_10 d11 d12 d13 d14 d15 3000 true _ ?side1 ?side2 A8.out).mono ?_); (case side1 => repeat (first | exact (Kd.C_below HR0_10.out HB.out) | (with_reducible refine Kd.C_alloc ?_ _) | (with_reducible refine Kd.C_drewN ?_ _) | (with_reducible refine Kd.C_drew ?_))); (case side2 => exact HC0_10.out); rintro e w10 ⟨rfl, hb⟩; refine ⟨_, rfl, ?_⟩; replace BK545 := As (blk_below (kb BK545.out) hb); replace HB := As (below_step (kB1 HB.out GE545.out) hb); (try clear hb)))
    go_meet
    case rel => exact ⟨_, (true), kS, H', ⟨by first | omega | exact Nat.le_refl _⟩, ⟨kb BK545.out⟩, ⟨kB1 HB.out GE545.out⟩⟩
   replace c9 := Bool.eq_false_iff.mpr c9
   subst c9
   have H1 : (intrusionlaw12_Ipv6RoundTrip.j0 k a1 (decide ((a1.size : Int) > 100)) d0 d1 d2 d3 d4 d5 d6 d7 d8 d9 l0_10 d11 d12 d13 d14 d15) = some r := by rw [if_neg (show ¬ (false = true) by decide)] at H; exact H
   clear H
   have H := H1
   clear H1
   have H' := As H
   clear H
   go_wp2_with (first | ((with_reducible refine gate_dst (N := 13) rfl ?_); (try (refine gate_guard (by rfl) ?_; dsimp only)); refine wpList_load_row rfl 28 _ rfl gb545 rfl 28 _ (0, 0) _ (kb BK545.out) Try.underlying28 rfl (by kernel_rfl) ?_) | ((with_reducible refine gate_callee (f := 14) rfl ?_); refine goesL_ (some 14) rfl rfl Try.func14 (by kernel_rfl) rfl #[.agg #[.int .i64 d0, .int .i64 d1, .int .i64 d2, .int .i64 d3, .bool d4, .int .u64 d5, .int .u64 d6, .bool d7, .int .u64 d8, .int .u64 d9, .slice A0_10 l0_10.length c0_10, .bool d11, .int .i64 d12, .int .i64 d13, .bool d14, .string d15], .int .i64 3000] rfl kA ?_; (with_reducible refine (intrusionref12_Long.calls k d0 d1 d2 d3 d4 d5 d6 d7 d8 d9 _ _ l0_10 d11 d12 d13 d14 d15 3000 false _ ?side1 ?side2 A8.out).mono ?_); (case side1 => repeat (first | exact (Kd.C_below HR0_10.out HB.out) | (with_reducible refine Kd.C_alloc ?_ _) | (with_reducible refine Kd.C_drewN ?_ _) | (with_reducible refine Kd.C_drew ?_))); (case side2 => exact HC0_10.out); rintro e w11 ⟨rfl, hb⟩; refine ⟨_, rfl, ?_⟩; replace BK545 := As (blk_below (kb BK545.out) hb); replace HB := As (below_step (kB1 HB.out GE545.out) hb); (try clear hb)))
   go_meet
   case rel => exact ⟨_, (decide ((a1.size : Int) > 100)), kS, H', ⟨by first | omega | exact Nat.le_refl _⟩, ⟨kb BK545.out⟩, ⟨kB1 HB.out GE545.out⟩⟩
  clear HC5
  try clear c4
  obtain ⟨kq, x19_4, rfl, HA, HJ4, BK545, HB⟩ := hcut
  cases kq with
  | zero => exact absurd HA.out (by simp [intrusionlaw12_Ipv6RoundTrip.j0])
  | succ kj4 =>
   have H := HA.out
   clear HA
   simp only [intrusionlaw12_Ipv6RoundTrip.j0] at H
   by_cases c12 : x19_4 = true
   ·subst c12
    have H1 : (some true) = some r := by rw [if_pos rfl] at H; exact H
    clear H
    have H := H1
    clear H1
    obtain rfl := Option.some.inj H
    go_wp2
    go_ret
    exact ⟨kE, by exact kB1 HB.out GE545.out⟩
   replace c12 := Bool.eq_false_iff.mpr c12
   subst c12
   have H1 : ((ipv6_Encode.f kj4 d0 d1 d2 d3 d4 d5 d6 d7 d8 d9 l0_10 d11 d12 d13 d14 d15).bind fun bt548 => (if bt548.2 = 0 then (intrusionlaw12_Ipv6RoundTrip.j1 kj4 a1 bt548.1 bt548.2 (decide ((bt548.1.size : Int) < 40)) d0 d1 d2 d3 d4 d5 d6 d7 d8 d9 l0_10 d11 d12 d13 d14 d15) else (intrusionlaw12_Ipv6RoundTrip.j1 kj4 a1 bt548.1 bt548.2 true d0 d1 d2 d3 d4 d5 d6 d7 d8 d9 l0_10 d11 d12 d13 d14 d15))) = some r := by rw [if_neg (show ¬ (false = true) by decide)] at H; exact H
   clear H
   have H := H1
   clear H1
   replace H := Option.bind_eq_some_iff.mp H
   obtain ⟨⟨t548, t549⟩, A130, H⟩ := H
   replace H : (if t549 = 0 then (intrusionlaw12_Ipv6RoundTrip.j1 kj4 a1 t548 t549 (decide ((t548.size : Int) < 40)) d0 d1 d2 d3 d4 d5 d6 d7 d8 d9 l0_10 d11 d12 d13 d14 d15) else (intrusionlaw12_Ipv6RoundTrip.j1 kj4 a1 t548 t549 true d0 d1 d2 d3 d4 d5 d6 d7 d8 d9 l0_10 d11 d12 d13 d14 d15)) = some r := H
   have A13 := As A130
   clear A130
   have HC14 := As H
   clear H
   go_upto_region 6 with (first | ((with_reducible refine gate_dst (N := 21) rfl ?_); (try (refine gate_guard (by rfl) ?_; dsimp only)); refine wpList_load_row rfl 28 _ rfl gb545 rfl 28 _ (0, 0) _ (kb BK545.out) Try.underlying28 rfl (by kernel_rfl) ?_) | ((with_reducible refine gate_callee (f := 15) rfl ?_); refine goesL_ (some 22) rfl rfl Try.func15 (by kernel_rfl) rfl #[.agg #[.int .i64 d0, .int .i64 d1, .int .i64 d2, .int .i64 d3, .bool d4, .int .u64 d5, .int .u64 d6, .bool d7, .int .u64 d8, .int .u64 d9, .slice A0_10 l0_10.length c0_10, .bool d11, .int .i64 d12, .int .i64 d13, .bool d14, .string d15]] rfl kA ?_; (with_reducible refine (ipv6_Encode.calls kj4 d0 d1 d2 d3 d4 d5 d6 d7 d8 d9 _ _ l0_10 d11 d12 d13 d14 d15 t548 t549 _ ?side1 ?side2 A13.out).mono ?_); (case side1 => repeat (first | exact (Kd.C_below HR0_10.out HB.out) | (with_reducible refine Kd.C_alloc ?_ _) | (with_reducible refine Kd.C_drewN ?_ _) | (with_reducible refine Kd.C_drew ?_))); (case side2 => exact HC0_10.out); rintro e w15 ⟨rfl, hb⟩; refine ⟨_, rfl, ?_⟩; replace BK545 := As (blk_below (kb BK545.out) hb); replace HB := As (below_step (kB1 HB.out GE545.out) hb); (try clear hb)))
   (try simp only [Act.put, sA, sZ, sS])
   go_cut [31] (fun v31 wc => ∃ (kq : Nat) (x31_13 : Bool), v31 = .bool x31_13 ∧ Aside0 (intrusionlaw12_Ipv6RoundTrip.j1 kq a1 t548 t549 x31_13 d0 d1 d2 d3 d4 d5 d6 d7 d8 d9 l0_10 d11 d12 d13 d14 d15 = some r) ∧ Aside0 (kq ≤ kj4) ∧ Aside0 (wc.heap[gb545]? = some (.cells #[.int .i64 d0, .int .i64 d1, .int .i64 d2, .int .i64 d3, .bool d4, .int .u64 d5, .int .u64 d6, .bool d7, .int .u64 d8, .int .u64 d9, (.slice A0_10 l0_10.length c0_10), .bool d11, .int .i64 d12, .int .i64 d13, .bool d14, .string d15] 28 (0, 0))) ∧ Aside0 (Below w.heap.size w wc))
   case first =>
    have H := HC14.out
    clear HC14
    by_cases c16 : t549 = 0
    ·rw [if_pos c16] at H
     have c16b0 : (t549 == 0) = true := beq_iff_eq.mpr c16
     have c16b1 : (t549 != 0) = false := bne_eq_false_iff_eq.mpr c16
     clear c16
     (first | rw [c16b0] | (simp only [i64_w, i32_w]; rw [c16b0]) | skip)
     have H' := As H
     clear H
     go_wp2
     go_meet
     case rel => exact ⟨_, (decide ((t548.size : Int) < 40)), kS, H', ⟨by have := HJ4.out; first | omega | exact Nat.le_refl _⟩, ⟨kb BK545.out⟩, ⟨kB1 HB.out GE545.out⟩⟩
    rw [if_neg c16] at H
    have c16b0 : (t549 == 0) = false := beq_eq_false_iff_ne.mpr c16
    have c16b1 : (t549 != 0) = true := bne_iff_ne.mpr c16
    (first | rw [c16b0] | (simp only [i64_w, i32_w]; rw [c16b0]) | skip)
    have H' := As H
    clear H
    go_wp2
    go_meet
    case rel => exact ⟨_, (true), kS, H', ⟨by have := HJ4.out; first | omega | exact Nat.le_refl _⟩, ⟨kb BK545.out⟩, ⟨kB1 HB.out GE545.out⟩⟩
   clear HC14
   try clear c12
   obtain ⟨kq, x31_13, rfl, HA, HJ13, BK545, HB⟩ := hcut
   cases kq with
   | zero => exact absurd HA.out (by simp [intrusionlaw12_Ipv6RoundTrip.j1])
   | succ kj13 =>
    have H := HA.out
    clear HA
    simp only [intrusionlaw12_Ipv6RoundTrip.j1] at H
    by_cases c17 : x31_13 = true
    ·subst c17
     have H1 : (if t549 = 0 then (none) else (some (t548.toList == ([] : List UInt8)))) = some r := by rw [if_pos rfl] at H; exact H
     clear H
     have H := H1
     clear H1
     by_cases c18 : t549 = 0
     ·rw [if_pos c18] at H
      exact absurd H (by simp)
     rw [if_neg c18] at H
     have c18b0 : (t549 == 0) = false := beq_eq_false_iff_ne.mpr c18
     have c18b1 : (t549 != 0) = true := bne_iff_ne.mpr c18
     obtain rfl := Option.some.inj H
     go_wp2
     go_ret
     exact ⟨kE, by exact kB1 HB.out GE545.out⟩
    replace c17 := Bool.eq_false_iff.mpr c17
    subst c17
    have H1 : (if t548.size + a1.size ≤ 9223372036854775807 then ((ipv6_Decode.f kj13 (t548 ++ a1)).bind fun bt550 => (if 0 ≤ (wrap64 ((t548.size : Int) - 1)) then (if (wrap64 ((t548.size : Int) - 1)) ≤ (t548.size : Int) then ((ipv6_Decode.f kj13 (t548.extract 0 ((wrap64 ((t548.size : Int) - 1)) : Int).toNat)).bind fun bt570 => ((intrusionref12_Same.f kj13 d0 d1 d2 d3 d4 d5 d6 d7 d8 d9 l0_10 d11 d12 d13 d14 d15 bt550.1 bt550.2.1 bt550.2.2.1 bt550.2.2.2.1 bt550.2.2.2.2.1 bt550.2.2.2.2.2.1 bt550.2.2.2.2.2.2.1 bt550.2.2.2.2.2.2.2.1 bt550.2.2.2.2.2.2.2.2.1 bt550.2.2.2.2.2.2.2.2.2.1 bt550.2.2.2.2.2.2.2.2.2.2.1 bt550.2.2.2.2.2.2.2.2.2.2.2.1 bt550.2.2.2.2.2.2.2.2.2.2.2.2.1 bt550.2.2.2.2.2.2.2.2.2.2.2.2.2.1 bt550.2.2.2.2.2.2.2.2.2.2.2.2.2.2.1 bt550.2.2.2.2.2.2.2.2.2.2.2.2.2.2.2.1).bind fun t590 => (if t590 = true then (if bt550.2.2.2.2.2.2.2.2.2.2.2.2.2.2.2.2 = 0 then (some (bt570.2.2.2.2.2.2.2.2.2.2.2.2.2.2.2.2 == 1)) else (none)) else (none)))) else (none)) else (none))) else (none)) = some r := by rw [if_neg (show ¬ (false = true) by decide)] at H; exact H
    clear H
    have H := H1
    clear H1
    by_cases c19 : t548.size + a1.size ≤ 9223372036854775807
    ·rw [if_pos c19] at H
     have c19b0 := eq_true c19
     have c19b1 : decide (t548.size + a1.size ≤ 9223372036854775807) = true := decide_eq_true c19
     try have c19b2 : (9223372036854775807 < t548.size + a1.size) = False := eq_false (Nat.not_lt.2 c19)
     replace H := Option.bind_eq_some_iff.mp H
     obtain ⟨⟨t550, t551, t552, t553, t554, t555, t556, t557, t558, t559, t560, t563, t564, t565, t566, t567, t568⟩, A200, H⟩ := H
     replace H : (if 0 ≤ (wrap64 ((t548.size : Int) - 1)) then (if (wrap64 ((t548.size : Int) - 1)) ≤ (t548.size : Int) then ((ipv6_Decode.f kj13 (t548.extract 0 ((wrap64 ((t548.size : Int) - 1)) : Int).toNat)).bind fun bt570 => ((intrusionref12_Same.f kj13 d0 d1 d2 d3 d4 d5 d6 d7 d8 d9 l0_10 d11 d12 d13 d14 d15 t550 t551 t552 t553 t554 t555 t556 t557 t558 t559 t560 t563 t564 t565 t566 t567).bind fun t590 => (if t590 = true then (if t568 = 0 then (some (bt570.2.2.2.2.2.2.2.2.2.2.2.2.2.2.2.2 == 1)) else (none)) else (none)))) else (none)) else (none)) = some r := H
     have A20 := As A200
     clear A200
     obtain ⟨ji21, hji21⟩ : ∃ j_ : Int, (wrap64 ((t548.size : Int) - 1)) = j_ := ⟨_, rfl⟩
     replace H : (if 0 ≤ (ji21) then (if (ji21) ≤ (t548.size : Int) then ((ipv6_Decode.f kj13 (t548.extract 0 ((ji21) : Int).toNat)).bind fun bt570 => ((intrusionref12_Same.f kj13 d0 d1 d2 d3 d4 d5 d6 d7 d8 d9 l0_10 d11 d12 d13 d14 d15 t550 t551 t552 t553 t554 t555 t556 t557 t558 t559 t560 t563 t564 t565 t566 t567).bind fun t590 => (if t590 = true then (if t568 = 0 then (some (bt570.2.2.2.2.2.2.2.2.2.2.2.2.2.2.2.2 == 1)) else (none)) else (none)))) else (none)) else (none)) = some r := by first | (rw [hji21] at H; exact H) | (simp only [hji21] at H ⊢; exact H)
     (try rw [hji21] at A20)
     have hji21w : (IntKind.i64.wrap ((t548.size : Int) - 1)) = ji21 := (i64_w _).trans hji21
     by_cases c22 : 0 ≤ (ji21)
     ·rw [if_pos c22] at H
      have c22b0 := eq_true c22
      have c22b1 : decide (0 ≤ (ji21)) = true := decide_eq_true c22
      clear c22
      by_cases c23 : (ji21) ≤ (t548.size : Int)
      ·rw [if_pos c23] at H
       have c23b0 := eq_true c23
       have c23b1 : decide ((ji21) ≤ (t548.size : Int)) = true := decide_eq_true c23
       clear c23
       replace H := Option.bind_eq_some_iff.mp H
       obtain ⟨⟨t570, t571, t572, t573, t574, t575, t576, t577, t578, t579, t580, t583, t584, t585, t586, t587, t588⟩, A240, H⟩ := H
       replace H : ((intrusionref12_Same.f kj13 d0 d1 d2 d3 d4 d5 d6 d7 d8 d9 l0_10 d11 d12 d13 d14 d15 t550 t551 t552 t553 t554 t555 t556 t557 t558 t559 t560 t563 t564 t565 t566 t567).bind fun t590 => (if t590 = true then (if t568 = 0 then (some (t588 == 1)) else (none)) else (none))) = some r := H
       have A24 := As A240
       clear A240
       replace H := Option.bind_eq_some_iff.mp H
       obtain ⟨t590, A250, H⟩ := H
       replace H : (if t590 = true then (if t568 = 0 then (some (t588 == 1)) else (none)) else (none)) = some r := H
       have A25 := As A250
       clear A250
       by_cases c26 : t590 = true
       ·subst c26
        have H1 : (if t568 = 0 then (some (t588 == 1)) else (none)) = some r := by rw [if_pos rfl] at H; exact H
        clear H
        have H := H1
        clear H1
        by_cases c27 : t568 = 0
        ·rw [if_pos c27] at H
         have c27b0 : (t568 == 0) = true := beq_iff_eq.mpr c27
         have c27b1 : (t568 != 0) = false := bne_eq_false_iff_eq.mpr c27
         clear c27
         obtain rfl := Option.some.inj H
         go_wp2_with (first | ((with_reducible refine gate_callee (f := 11) rfl ?_); refine goesL_ (some 42) rfl rfl Try.func11 (by kernel_rfl) rfl #[.string (t548 ++ a1)] rfl kA ?_; (with_reducible refine (ipv6_Decode.calls kj13 (t548 ++ a1) t550 t551 t552 t553 t554 t555 t556 t557 t558 t559 t560 t563 t564 t565 t566 t567 t568 _ A20.out).mono ?_); rintro e w28 ⟨v561, rfl, ho0, hb⟩; refine ⟨_, rfl, ?_⟩; have HO562 := As (Kd.R_lower ho0 (below_size (kB1 HB.out GE545.out))); replace BK545 := As (blk_below (kb BK545.out) hb); replace HB := As (below_step (kB1 HB.out GE545.out) hb); (try clear hb); (try clear ho0)) | ((with_reducible refine gate_dst (N := 7) rfl ?_); (try (refine gate_guard (by rfl) ?_; dsimp only)); refine box_event rfl (N := 7) rfl (cs := #[.int .i64 0, .int .i64 0, .int .i64 0, .int .i64 0, .bool false, .int .u64 0, .int .u64 0, .bool false, .int .u64 0, .int .u64 0, .slice none 0 0, .bool false, .int .i64 0, .int .i64 0, .bool false, .string (⟨#[]⟩ : ByteArray)]) (t := 28) kG ?_; intro gb569 hg w29 hbox hb; replace HO562 := As (Kd.R_below (kR HO562.out) hb); have BK569 := As (hbox); have GW569 := As ((by rw [hg]; exact (below_size (kB1 HB.out GE545.out)) : w.heap.size ≤ gb569)); have GE569 := As ((by rw [hg]; exact (below_size (kB1 HB.out GE545.out)) : w.heap.size ≤ gb569)); replace HB := As (below_step (kB1 HB.out GE545.out) hb); have NB545_569 := As ((by rw [hg]; exact Nat.ne_of_lt (blk_lt (kb BK545.out)) : gb545 ≠ gb569)); have NB569_545 := As ((by rw [hg]; exact Nat.ne_of_gt (blk_lt (kb BK545.out)) : gb569 ≠ gb545)); replace BK545 := As (blk_below (kb BK545.out) hb); clear hb hbox hg; obtain ⟨Ao30, co30, eo30⟩ := Kd.R_slice HO562.out; subst eo30) | ((with_reducible refine gate_store (t := 28) (p := 7) rfl ?_); refine store_rowev_16 gb569 (.int .i64 t550) (.int .i64 t551) (.int .i64 t552) (.int .i64 t553) (.bool t554) (.int .u64 t555) (.int .u64 t556) (.bool t557) (.int .u64 t558) (.int .u64 t559) (.slice Ao30 t560.length co30) (.bool t563) (.int .i64 t564) (.int .i64 t565) (.bool t566) (.string t567) rfl (t := 28) (p := 7) (v := _) rfl rfl rfl rfl (t' := 28) (kb BK569.out) (by rfl) (by kernel_rfl) (by rfl) ?_) | ((with_reducible refine gate_callee (f := 11) rfl ?_); refine goesL_ (some 51) rfl rfl Try.func11 (by kernel_rfl) rfl #[.string (t548.extract 0 ((ji21) : Int).toNat)] rfl (by (try simp only [List.map_toArray, List.map_cons, List.map_nil]); first | done | (simp only [hji21]; rfl) | rfl | (simp only [List.length_drop, List.length_take]; rfl)) ?_; (with_reducible refine (ipv6_Decode.calls kj13 (t548.extract 0 ((ji21) : Int).toNat) t570 t571 t572 t573 t574 t575 t576 t577 t578 t579 t580 t583 t584 t585 t586 t587 t588 _ A24.out).mono ?_); rintro e w31 ⟨v581, rfl, ho0, hb⟩; refine ⟨_, rfl, ?_⟩; have HO582 := As (Kd.R_lower (Kd.R_new' ho0 (Kd.R_lt (by refine kR ?_; exact (Kd.R_mono (Kd.R_puts_0_16 gb569 (.int .i64 t550) (.int .i64 t551) (.int .i64 t552) (.int .i64 t553) (.bool t554) (.int .u64 t555) (.int .u64 t556) (.bool t557) (.int .u64 t558) (.int .u64 t559) (.slice Ao30 t560.length co30) (.bool t563) (.int .i64 t564) (.int .i64 t565) (.bool t566) (.string t567) (Kd.R_types HO562.out BK569.out (by decide)) (fun _ hk => hk.2)) (fun _ h_ => h_.1))))) (below_size (kB2 HB.out GE545.out GE569.out))); replace HO562 := As (Kd.R_elder' (by refine kR ?_; exact (Kd.R_mono (Kd.R_puts_0_16 gb569 (.int .i64 t550) (.int .i64 t551) (.int .i64 t552) (.int .i64 t553) (.bool t554) (.int .u64 t555) (.int .u64 t556) (.bool t557) (.int .u64 t558) (.int .u64 t559) (.slice Ao30 t560.length co30) (.bool t563) (.int .i64 t564) (.int .i64 t565) (.bool t566) (.string t567) (Kd.R_types HO562.out BK569.out (by decide)) (fun _ hk => hk.2)) (fun _ h_ => h_.1))) (Kd.R_base ho0) hb); replace BK545 := As (blk_below (g := gb545) (o := .cells #[.int .i64 d0, .int .i64 d1, .int .i64 d2, .int .i64 d3, .bool d4, .int .u64 d5, .int .u64 d6, .bool d7, .int .u64 d8, .int .u64 d9, .slice A0_10 l0_10.length c0_10, .bool d11, .int .i64 d12, .int .i64 d13, .bool d14, .string d15] 28 (0, 0)) (by refine kb ?_; (iterate 16 (refine blk_far ?_ NB545_569.out _; refine kb ?_)); exact BK545.out) hb); replace BK569 := As (blk_below (g := gb569) (o := .cells #[.int .i64 t550, .int .i64 t551, .int .i64 t552, .int .i64 t553, .bool t554, .int .u64 t555, .int .u64 t556, .bool t557, .int .u64 t558, .int .u64 t559, .slice Ao30 t560.length co30, .bool t563, .int .i64 t564, .int .i64 t565, .bool t566, .string t567] 28 (0, 0)) (by refine kb ?_; exact blk_all_16 (kb BK569.out) (by rfl)) hb); replace HB := As (below_step (kB2 HB.out GE545.out GE569.out) hb); (try clear hb); (try clear hk); (try clear ho0)) | ((with_reducible refine gate_dst (N := 9) rfl ?_); (try (refine gate_guard (by rfl) ?_; dsimp only)); refine box_event rfl (N := 9) rfl (cs := #[.int .i64 0, .int .i64 0, .int .i64 0, .int .i64 0, .bool false, .int .u64 0, .int .u64 0, .bool false, .int .u64 0, .int .u64 0, .slice none 0 0, .bool false, .int .i64 0, .int .i64 0, .bool false, .string (⟨#[]⟩ : ByteArray)]) (t := 28) kG ?_; intro gb589 hg w32 hbox hb; replace HO562 := As (Kd.R_below (kR HO562.out) hb); replace HO582 := As (Kd.R_below (kR HO582.out) hb); have BK589 := As (hbox); have GW589 := As ((by rw [hg]; exact (below_size (kB2 HB.out GE545.out GE569.out)) : w.heap.size ≤ gb589)); have GE589 := As ((by rw [hg]; exact (below_size (kB2 HB.out GE545.out GE569.out)) : w.heap.size ≤ gb589)); replace HB := As (below_step (kB2 HB.out GE545.out GE569.out) hb); have NB545_589 := As ((by rw [hg]; exact Nat.ne_of_lt (blk_lt (kb BK545.out)) : gb545 ≠ gb589)); have NB589_545 := As ((by rw [hg]; exact Nat.ne_of_gt (blk_lt (kb BK545.out)) : gb589 ≠ gb545)); replace BK545 := As (blk_below (kb BK545.out) hb); have NB569_589 := As ((by rw [hg]; exact Nat.ne_of_lt (blk_lt (kb BK569.out)) : gb569 ≠ gb589)); have NB589_569 := As ((by rw [hg]; exact Nat.ne_of_gt (blk_lt (kb BK569.out)) : gb589 ≠ gb569)); replace BK569 := As (blk_below (kb BK569.out) hb); clear hb hbox hg; obtain ⟨Ao33, co33, eo33⟩ := Kd.R_slice HO582.out; subst eo33) | ((with_reducible refine gate_store (t := 28) (p := 9) rfl ?_); refine store_rowev_16 gb589 (.int .i64 t570) (.int .i64 t571) (.int .i64 t572) (.int .i64 t573) (.bool t574) (.int .u64 t575) (.int .u64 t576) (.bool t577) (.int .u64 t578) (.int .u64 t579) (.slice Ao33 t580.length co33) (.bool t583) (.int .i64 t584) (.int .i64 t585) (.bool t586) (.string t587) rfl (t := 28) (p := 9) (v := _) rfl rfl rfl rfl (t' := 28) (kb BK589.out) (by rfl) (by kernel_rfl) (by rfl) ?_) | ((with_reducible refine gate_dst (N := 54) rfl ?_); (try (refine gate_guard (by rfl) ?_; dsimp only)); refine wpList_load_row ?hgd 28 _ rfl gb545 rfl 28 #[.int .i64 d0, .int .i64 d1, .int .i64 d2, .int .i64 d3, .bool d4, .int .u64 d5, .int .u64 d6, .bool d7, .int .u64 d8, .int .u64 d9, .slice A0_10 l0_10.length c0_10, .bool d11, .int .i64 d12, .int .i64 d13, .bool d14, .string d15] (0, 0) _ (by refine kb ?_; (iterate 16 (refine blk_far ?_ NB545_589.out _; refine kb ?_)); exact BK545.out) Try.underlying28 rfl (by kernel_rfl) ?_; (case hgd => rfl)) | ((with_reducible refine gate_dst (N := 55) rfl ?_); (try (refine gate_guard (by rfl) ?_; dsimp only)); refine wpList_load_row ?hgd 28 _ rfl gb569 rfl 28 #[.int .i64 t550, .int .i64 t551, .int .i64 t552, .int .i64 t553, .bool t554, .int .u64 t555, .int .u64 t556, .bool t557, .int .u64 t558, .int .u64 t559, .slice Ao30 t560.length co30, .bool t563, .int .i64 t564, .int .i64 t565, .bool t566, .string t567] (0, 0) _ (by refine kb ?_; (iterate 16 (refine blk_far ?_ NB569_589.out _; refine kb ?_)); exact BK569.out) Try.underlying28 rfl (by kernel_rfl) ?_; (case hgd => rfl)) | ((with_reducible refine gate_callee (f := 13) rfl ?_); refine goesL_ (some 56) rfl rfl Try.func13 (by kernel_rfl) rfl #[.agg #[.int .i64 d0, .int .i64 d1, .int .i64 d2, .int .i64 d3, .bool d4, .int .u64 d5, .int .u64 d6, .bool d7, .int .u64 d8, .int .u64 d9, .slice A0_10 l0_10.length c0_10, .bool d11, .int .i64 d12, .int .i64 d13, .bool d14, .string d15], .agg #[.int .i64 t550, .int .i64 t551, .int .i64 t552, .int .i64 t553, .bool t554, .int .u64 t555, .int .u64 t556, .bool t557, .int .u64 t558, .int .u64 t559, .slice Ao30 t560.length co30, .bool t563, .int .i64 t564, .int .i64 t565, .bool t566, .string t567]] rfl kA ?_; (with_reducible refine (intrusionref12_Same.calls kj13 d0 d1 d2 d3 d4 d5 d6 d7 d8 d9 _ _ l0_10 d11 d12 d13 d14 d15 t550 t551 t552 t553 t554 t555 t556 t557 t558 t559 _ _ t560 t563 t564 t565 t566 t567 true _ ?side1 ?side2 ?side3 ?side4 A25.out).mono ?_); (case side1 => exact Kd.C_below HR0_10.out (kB3 HB.out GE545.out GE569.out GE589.out)); (case side2 => exact HC0_10.out); (case side3 => refine (Kd.R_reads' (e := 60) (base := w.heap.size) (ok := fun k_ => (True ∧ some k_ ≠ (.slice Ao33 t580.length co33 : Value).ownBlock)) (n := t560.length) (c := co30) ?_).2.2; exact (by refine kR ?_; exact (Kd.R_mono (Kd.R_puts_0_16 gb589 (.int .i64 t570) (.int .i64 t571) (.int .i64 t572) (.int .i64 t573) (.bool t574) (.int .u64 t575) (.int .u64 t576) (.bool t577) (.int .u64 t578) (.int .u64 t579) (.slice Ao33 t580.length co33) (.bool t583) (.int .i64 t584) (.int .i64 t585) (.bool t586) (.string t587) (Kd.R_types HO562.out BK589.out (by decide)) (fun _ hk => hk.2)) (fun _ h_ => h_.1)))); (case side4 => exact (Kd.R_reads' HO562.out).2.1); rintro e w34 ⟨rfl, hb⟩; refine ⟨_, rfl, ?_⟩; replace HO562 := As (Kd.R_below (by refine kR ?_; exact (Kd.R_mono (Kd.R_puts_0_16 gb589 (.int .i64 t570) (.int .i64 t571) (.int .i64 t572) (.int .i64 t573) (.bool t574) (.int .u64 t575) (.int .u64 t576) (.bool t577) (.int .u64 t578) (.int .u64 t579) (.slice Ao33 t580.length co33) (.bool t583) (.int .i64 t584) (.int .i64 t585) (.bool t586) (.string t587) (Kd.R_types HO562.out BK589.out (by decide)) (fun _ hk => hk.2)) (fun _ h_ => h_.1))) hb); replace HO582 := As (Kd.R_below (by refine kR ?_; exact (Kd.R_mono (Kd.R_puts_0_16 gb589 (.int .i64 t570) (.int .i64 t571) (.int .i64 t572) (.int .i64 t573) (.bool t574) (.int .u64 t575) (.int .u64 t576) (.bool t577) (.int .u64 t578) (.int .u64 t579) (.slice Ao33 t580.length co33) (.bool t583) (.int .i64 t584) (.int .i64 t585) (.bool t586) (.string t587) (Kd.R_types HO582.out BK589.out (by decide)) (fun _ hk => hk.2)) (fun _ h_ => h_.1))) hb); replace BK545 := As (blk_below (g := gb545) (o := .cells #[.int .i64 d0, .int .i64 d1, .int .i64 d2, .int .i64 d3, .bool d4, .int .u64 d5, .int .u64 d6, .bool d7, .int .u64 d8, .int .u64 d9, .slice A0_10 l0_10.length c0_10, .bool d11, .int .i64 d12, .int .i64 d13, .bool d14, .string d15] 28 (0, 0)) (by refine kb ?_; (iterate 16 (refine blk_far ?_ NB545_589.out _; refine kb ?_)); exact BK545.out) hb); replace BK569 := As (blk_below (g := gb569) (o := .cells #[.int .i64 t550, .int .i64 t551, .int .i64 t552, .int .i64 t553, .bool t554, .int .u64 t555, .int .u64 t556, .bool t557, .int .u64 t558, .int .u64 t559, .slice Ao30 t560.length co30, .bool t563, .int .i64 t564, .int .i64 t565, .bool t566, .string t567] 28 (0, 0)) (by refine kb ?_; (iterate 16 (refine blk_far ?_ NB569_589.out _; refine kb ?_)); exact BK569.out) hb); replace BK589 := As (blk_below (g := gb589) (o := .cells #[.int .i64 t570, .int .i64 t571, .int .i64 t572, .int .i64 t573, .bool t574, .int .u64 t575, .int .u64 t576, .bool t577, .int .u64 t578, .int .u64 t579, .slice Ao33 t580.length co33, .bool t583, .int .i64 t584, .int .i64 t585, .bool t586, .string t587] 28 (0, 0)) (by refine kb ?_; exact blk_all_16 (kb BK589.out) (by rfl)) hb); replace HB := As (below_step (kB3 HB.out GE545.out GE569.out GE589.out) hb); (try clear hb); (try clear hk)))
         go_ret
         exact ⟨by first | rfl | (simp [errW_none, errW_some] <;> rfl) | (simp only [← hji21]; first | rfl | (simp [errW_none, errW_some] <;> rfl)) | (simp [*, errW_none, errW_some] <;> rfl), by exact kB3 HB.out GE545.out GE569.out GE589.out⟩
        rw [if_neg c27] at H
        exact absurd H (by simp)
       replace c26 := Bool.eq_false_iff.mpr c26
       subst c26
       have H1 : (none) = some r := by rw [if_neg (show ¬ (false = true) by decide)] at H; exact H
       clear H
       have H := H1
       clear H1
       exact absurd H (by simp)
      rw [if_neg c23] at H
      exact absurd H (by simp)
     rw [if_neg c22] at H
     exact absurd H (by simp)
    rw [if_neg c19] at H
    exact absurd H (by simp)
 replace c4 := Bool.eq_false_iff.mpr c4
 subst c4
 have H1 : (none) = some r := by rw [if_neg (show ¬ (false = true) by decide)] at H; exact H
 clear H
 have H := H1
 clear H1
 exact absurd H (by simp)

end Go.Proofs.Ytljboandbjahdaa.X
-- short
