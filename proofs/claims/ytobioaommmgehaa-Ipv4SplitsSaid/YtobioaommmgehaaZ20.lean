/- Functions and their walks, printed by xprint.py. -/
import Derived.Test.YtobioaommmgehaaZ0
import Derived.Test.YtobioaommmgehaaZ6
import Derived.Test.YtobioaommmgehaaZ11
import Derived.Test.YtobioaommmgehaaZ12
import Derived.Test.YtobioaommmgehaaZ13
import Derived.Test.YtobioaommmgehaaZ19
namespace Go.Proofs.Ytobioaommmgehaa.Z
open Go.RowKit Go.Proofs.YtobioaommmgehaaW.PrintWords Go.Proofs.YtobioaommmgehaaW.PrintLast Go.Proofs.YtobioaommmgehaaW.PrintMore
attribute [local go_sem] max2_int min2_int max_two min_two max_three min_three max_four min_four   -- for this text's walks alone
set_option linter.unusedVariables false
set_option linter.unusedSimpArgs false

/-! ### intrusionlaw11_Ipv4Splits: function 5 -/
mutual
def intrusionlaw11_Ipv4Splits.j0 : Nat → Int → Bool → Int → Int → Int → Int → Bool → Bool → Int → Bool → Int → Int → Bool → Int → Int → List (S50) → ByteArray → Option (Bool)
 | 0, _, _, _, _, _, _, _, _, _, _, _, _, _, _, _, _, _ => none
 | k + 1, x1, x17, b0, b1, b2, b3, b4, b5, b6, b7, b8, b9, b10, b11, b12, b13, b14 => if x17 = true then ((intrusionlaw11_awake.f k).bind fun t518 => (some t518)) else ((ipv4_Split.f k b0 b1 b2 b3 b4 b5 b6 b7 b8 b9 b10 b11 b12 b13 b14 x1).bind fun bt519 => ((intrusionref11_Split.f k b0 b1 b2 b3 b4 b5 b6 b7 b8 b9 b10 b11 b12 b13 b14 x1).bind fun bt523 => (if (bt519.1.length : Int) = (bt523.1.length : Int) then (intrusionlaw11_Ipv4Splits.j1 k bt519.1 bt523.1 (bt519.2 != bt523.2)) else (intrusionlaw11_Ipv4Splits.j1 k bt519.1 bt523.1 true))))
def intrusionlaw11_Ipv4Splits.j1 : Nat → List (S28) → List (S28) → Bool → Option (Bool)
 | 0, _, _, _ => none
 | k + 1, x5, x7, x40 => if x40 = true then (none) else (intrusionlaw11_Ipv4Splits.l0 k x5 x7 (x5.length : Int) 0)
def intrusionlaw11_Ipv4Splits.l0 : Nat → List (S28) → List (S28) → Int → Int → Option (Bool)
 | 0, _, _, _, _ => none
 | k + 1, x5, x7, x42, x43 => if x43 < x42 then (if 0 ≤ x43 then (if x43 < (x5.length : Int) then (if x43 < (x7.length : Int) then ((intrusionlaw11_same.f k ((rd_T28 x5 x43).f0) ((rd_T28 x5 x43).f1) ((rd_T28 x5 x43).f2) ((rd_T28 x5 x43).f3) ((rd_T28 x5 x43).f4) ((rd_T28 x5 x43).f5) ((rd_T28 x5 x43).f6) ((rd_T28 x5 x43).f7.f0) ((rd_T28 x5 x43).f7.f1) ((rd_T28 x5 x43).f7.f2) ((rd_T28 x5 x43).f8.f0) ((rd_T28 x5 x43).f8.f1) ((rd_T28 x5 x43).f8.f2) ((rd_T28 x5 x43).f9) ((rd_T28 x5 x43).f10) ((rd_T28 x7 x43).f0) ((rd_T28 x7 x43).f1) ((rd_T28 x7 x43).f2) ((rd_T28 x7 x43).f3) ((rd_T28 x7 x43).f4) ((rd_T28 x7 x43).f5) ((rd_T28 x7 x43).f6) ((rd_T28 x7 x43).f7.f0) ((rd_T28 x7 x43).f7.f1) ((rd_T28 x7 x43).f7.f2) ((rd_T28 x7 x43).f8.f0) ((rd_T28 x7 x43).f8.f1) ((rd_T28 x7 x43).f8.f2) ((rd_T28 x7 x43).f9) ((rd_T28 x7 x43).f10)).bind fun t529 => (if t529 = true then (intrusionlaw11_Ipv4Splits.l0 k x5 x7 x42 (wrap64 (x43 + 1))) else (none))) else (none)) else (none)) else (none)) else ((intrusionlaw11_awake.f k).bind fun t530 => (some t530))
end
def intrusionlaw11_Ipv4Splits.f (k : Nat) (d0 : Int) (d1 : Int) (d2 : Int) (d3 : Int) (d4 : Bool) (d5 : Bool) (d6 : Int) (d7 : Bool) (d8 : Int) (d9 : Int) (d10 : Bool) (d11 : Int) (d12 : Int) (l0_13 : List (S50)) (d14 : ByteArray) (a1 : Int) : Option (Bool) := (intrusionlaw11_large.f d0 d1 d2 d3 d4 d5 d6 d7 d8 d9 d10 d11 d12 l0_13 d14).bind fun t517 => (if t517 = true then (intrusionlaw11_Ipv4Splits.j0 k a1 true d0 d1 d2 d3 d4 d5 d6 d7 d8 d9 d10 d11 d12 l0_13 d14) else (intrusionlaw11_Ipv4Splits.j0 k a1 (decide ((d14.size : Int) > 3000)) d0 d1 d2 d3 d4 d5 d6 d7 d8 d9 d10 d11 d12 l0_13 d14))
theorem intrusionlaw11_Ipv4Splits.mono_l : ∀ k, (∀ y0 y1 y2 y3 y4 y5 y6 y7 y8 y9 y10 y11 y12 y13 y14 y15 y16, LeO (intrusionlaw11_Ipv4Splits.j0 k y0 y1 y2 y3 y4 y5 y6 y7 y8 y9 y10 y11 y12 y13 y14 y15 y16) (intrusionlaw11_Ipv4Splits.j0 (k + 1) y0 y1 y2 y3 y4 y5 y6 y7 y8 y9 y10 y11 y12 y13 y14 y15 y16)) ∧ (∀ y0 y1 y2, LeO (intrusionlaw11_Ipv4Splits.j1 k y0 y1 y2) (intrusionlaw11_Ipv4Splits.j1 (k + 1) y0 y1 y2)) ∧ (∀ y0 y1 y2 y3, LeO (intrusionlaw11_Ipv4Splits.l0 k y0 y1 y2 y3) (intrusionlaw11_Ipv4Splits.l0 (k + 1) y0 y1 y2 y3))
 | 0 => ⟨fun _ _ _ _ _ _ _ _ _ _ _ _ _ _ _ _ _ r h => by simp [intrusionlaw11_Ipv4Splits.j0] at h, fun _ _ _ r h => by simp [intrusionlaw11_Ipv4Splits.j1] at h, fun _ _ _ _ r h => by simp [intrusionlaw11_Ipv4Splits.l0] at h⟩
 | k + 1 => by
  obtain ⟨ih0, ih1, ih2⟩ := intrusionlaw11_Ipv4Splits.mono_l k
  refine ⟨?_, ?_, ?_⟩
  ·intro y0 y1 y2 y3 y4 y5 y6 y7 y8 y9 y10 y11 y12 y13 y14 y15 y16
   unfold intrusionlaw11_Ipv4Splits.j0
   repeat' first | with_reducible first | apply ih0 | apply ih1 | apply ih2 | apply intrusionlaw11_awake.mono | apply intrusionlaw11_same.mono | apply intrusionref11_Split.mono | apply ipv4_Split.mono | apply LeO.refl | apply LeO.none | refine LeO.ite ?_ ?_ | refine LeO.bind ?_ (fun _ => ?_)
  ·intro y0 y1 y2
   unfold intrusionlaw11_Ipv4Splits.j1
   repeat' first | with_reducible first | apply ih0 | apply ih1 | apply ih2 | apply intrusionlaw11_awake.mono | apply intrusionlaw11_same.mono | apply intrusionref11_Split.mono | apply ipv4_Split.mono | apply LeO.refl | apply LeO.none | refine LeO.ite ?_ ?_ | refine LeO.bind ?_ (fun _ => ?_)
  intro y0 y1 y2 y3
  unfold intrusionlaw11_Ipv4Splits.l0
  repeat' first | with_reducible first | apply ih0 | apply ih1 | apply ih2 | apply intrusionlaw11_awake.mono | apply intrusionlaw11_same.mono | apply intrusionref11_Split.mono | apply ipv4_Split.mono | apply LeO.refl | apply LeO.none | refine LeO.ite ?_ ?_ | refine LeO.bind ?_ (fun _ => ?_)
theorem intrusionlaw11_Ipv4Splits.mono : ∀ a0 a1 a2 a3 a4 a5 a6 a7 a8 a9 a10 a11 a12 a13 a14 a15 k, LeO (intrusionlaw11_Ipv4Splits.f k a0 a1 a2 a3 a4 a5 a6 a7 a8 a9 a10 a11 a12 a13 a14 a15) (intrusionlaw11_Ipv4Splits.f (k + 1) a0 a1 a2 a3 a4 a5 a6 a7 a8 a9 a10 a11 a12 a13 a14 a15) := by
 intro a0 a1 a2 a3 a4 a5 a6 a7 a8 a9 a10 a11 a12 a13 a14 a15 k
 obtain ⟨ih0, ih1, ih2⟩ := intrusionlaw11_Ipv4Splits.mono_l k
 unfold intrusionlaw11_Ipv4Splits.f
 repeat' first | with_reducible first | apply ih0 | apply ih1 | apply ih2 | apply intrusionlaw11_awake.mono | apply intrusionlaw11_same.mono | apply intrusionref11_Split.mono | apply ipv4_Split.mono | apply LeO.refl | apply LeO.none | refine LeO.ite ?_ ?_ | refine LeO.bind ?_ (fun _ => ?_)
def intrusionlaw11_Ipv4Splits.T10 : Bool × List (List Nat × List Nat) := (true, [([], []), ([], []), ([0, 1], [0, 1]), ([2], [2]), ([], []), ([], []), ([4, 5], [4, 5]), ([6], [6]), ([3, 7], [3, 7]), ([8], [8])])
def intrusionlaw11_Ipv4Splits.B10 : List Nat := [0, 0, 3, 7, 0, 0, 48, 112, 255, 511]
theorem intrusionlaw11_Ipv4Splits.tab10 : rtab .any (opsOf Try.f5 10) = intrusionlaw11_Ipv4Splits.T10 := by kernel_rfl
theorem intrusionlaw11_Ipv4Splits.bits10 : waitsOk intrusionlaw11_Ipv4Splits.T10.2 intrusionlaw11_Ipv4Splits.B10 = true := by kernel_rfl
set_option maxHeartbeats 8000000 in
set_option maxRecDepth 100000 in
theorem intrusionlaw11_Ipv4Splits.calls (k : Nat) (d0 : Int) (d1 : Int) (d2 : Int) (d3 : Int) (d4 : Bool) (d5 : Bool) (d6 : Int) (d7 : Bool) (d8 : Int) (d9 : Int) (d10 : Bool) (d11 : Int) (d12 : Int) (A0_13 : Option Addr) (c0_13 : Nat) (l0_13 : List (S50)) (d14 : ByteArray) (a1 : Int) (r : Bool) (w : World) (hr0_13 : Kd.C k50 w A0_13 l0_13.length l0_13) (hc0_13 : l0_13.length ≤ c0_13) (h : intrusionlaw11_Ipv4Splits.f k d0 d1 d2 d3 d4 d5 d6 d7 d8 d9 d10 d11 d12 l0_13 d14 a1 = some r) :
  Calls Try.prog 5 #[.agg #[.int .i64 d0, .int .i64 d1, .int .i64 d2, .int .i64 d3, .bool d4, .bool d5, .int .i64 d6, .bool d7, .int .u64 d8, .int .u64 d9, .bool d10, .int .u64 d11, .int .u64 d12, .slice A0_13 l0_13.length c0_13, .string d14], .int .i64 a1] w fun e w' => e = .returned (.bool r) ∧ Below w.heap.size w w' := by
 have hu28 := Try.underlying28
 have HR0_13 := As hr0_13
 have HC0_13 := As hc0_13
 clear hr0_13 hc0_13
 have HB := As (Below.refl w.heap.size w)
 have H : ((intrusionlaw11_large.f d0 d1 d2 d3 d4 d5 d6 d7 d8 d9 d10 d11 d12 l0_13 d14).bind fun t517 => (if t517 = true then (intrusionlaw11_Ipv4Splits.j0 k a1 true d0 d1 d2 d3 d4 d5 d6 d7 d8 d9 d10 d11 d12 l0_13 d14) else (intrusionlaw11_Ipv4Splits.j0 k a1 (decide ((d14.size : Int) > 3000)) d0 d1 d2 d3 d4 d5 d6 d7 d8 d9 d10 d11 d12 l0_13 d14))) = some r := h
 clear h
 have HC3 := As H
 clear H
 go_enter Try.func5, Try.ntmps5
 go_upto_region 1 with (first | ((with_reducible refine gate_dst (N := 2) rfl ?_); (try (refine gate_guard (by rfl) ?_; dsimp only)); refine box_event rfl (N := 2) rfl (cs := #[.int .i64 d0, .int .i64 d1, .int .i64 d2, .int .i64 d3, .bool d4, .bool d5, .int .i64 d6, .bool d7, .int .u64 d8, .int .u64 d9, .bool d10, .int .u64 d11, .int .u64 d12, .slice A0_13 l0_13.length c0_13, .string d14]) (t := 28) kG ?_; intro gb516 hg w4 hbox hb; have BK516 := As (hbox); have GW516 := As (gS hg (below_size (kB HB.out))); have GE516 := As (gS hg (below_size (kB HB.out))); replace HB := As (below_step (kB HB.out) hb); clear hb hbox hg))
 (try simp only [Act.put, sA, sZ, sS])
 go_cut [17] (fun v17 wc => ∃ (kq : Nat) (x17_2 : Bool), v17 = .bool x17_2 ∧ Aside0 (intrusionlaw11_Ipv4Splits.j0 kq a1 x17_2 d0 d1 d2 d3 d4 d5 d6 d7 d8 d9 d10 d11 d12 l0_13 d14 = some r) ∧ Aside0 (kq ≤ k) ∧ Aside0 (wc.heap[gb516]? = some (.cells #[.int .i64 d0, .int .i64 d1, .int .i64 d2, .int .i64 d3, .bool d4, .bool d5, .int .i64 d6, .bool d7, .int .u64 d8, .int .u64 d9, .bool d10, .int .u64 d11, .int .u64 d12, (.slice A0_13 l0_13.length c0_13), .string d14] 28 (0, 0))) ∧ Aside0 (Below w.heap.size w wc))
 case first =>
  have H := HC3.out
  clear HC3
  replace H := bS H
  obtain ⟨t517, A5, H⟩ := H
  by_cases c6 : t517 = true
  ·subst c6
   rw [if_pos rfl] at H
   have H' := As H
   clear H
   go_wp2_with (first | ((with_reducible refine gate_dst (N := 10) rfl ?_); (try (refine gate_guard (by rfl) ?_; dsimp only)); refine wpList_load_row rfl 28 _ rfl gb516 rfl 28 _ (0, 0) _ (kb BK516.out) Try.underlying28 rfl (by kernel_rfl) ?_) | ((with_reducible refine gate_callee (f := 14) rfl ?_); refine goesL_ (some 11) rfl rfl Try.func14 (by kernel_rfl) rfl #[.agg #[.int .i64 d0, .int .i64 d1, .int .i64 d2, .int .i64 d3, .bool d4, .bool d5, .int .i64 d6, .bool d7, .int .u64 d8, .int .u64 d9, .bool d10, .int .u64 d11, .int .u64 d12, .slice A0_13 l0_13.length c0_13, .string d14]] rfl kA ?_; (with_reducible refine (intrusionlaw11_large.calls d0 d1 d2 d3 d4 d5 d6 d7 d8 d9 d10 d11 d12 _ _ l0_13 d14 true _ ?side1 ?side2 A5.out).mono ?_); (case side1 => repeat (first | exact (Kd.C_below HR0_13.out HB.out) | (with_reducible refine Kd.C_alloc ?_ _) | (with_reducible refine Kd.C_drewN ?_ _) | (with_reducible refine Kd.C_drew ?_))); (case side2 => exact HC0_13.out); rintro e w7 ⟨rfl, hb⟩; refine ⟨_, rfl, ?_⟩; replace BK516 := As (blk_below (kb BK516.out) hb); replace HB := As (below_step (kB1 HB.out GE516.out) hb); (try clear hb)))
   go_meet
   case rel => exact ⟨_, (true), kS, H', ⟨by first | omega | exact Nat.le_refl _⟩, ⟨kb BK516.out⟩, ⟨kB1 HB.out GE516.out⟩⟩
  replace c6 := Bool.eq_false_iff.mpr c6
  subst c6
  rw [if_neg (show ¬ (false = true) by decide)] at H
  have H' := As H
  clear H
  go_wp2_with (first | ((with_reducible refine gate_dst (N := 10) rfl ?_); (try (refine gate_guard (by rfl) ?_; dsimp only)); refine wpList_load_row rfl 28 _ rfl gb516 rfl 28 _ (0, 0) _ (kb BK516.out) Try.underlying28 rfl (by kernel_rfl) ?_) | ((with_reducible refine gate_callee (f := 14) rfl ?_); refine goesL_ (some 11) rfl rfl Try.func14 (by kernel_rfl) rfl #[.agg #[.int .i64 d0, .int .i64 d1, .int .i64 d2, .int .i64 d3, .bool d4, .bool d5, .int .i64 d6, .bool d7, .int .u64 d8, .int .u64 d9, .bool d10, .int .u64 d11, .int .u64 d12, .slice A0_13 l0_13.length c0_13, .string d14]] rfl kA ?_; (with_reducible refine (intrusionlaw11_large.calls d0 d1 d2 d3 d4 d5 d6 d7 d8 d9 d10 d11 d12 _ _ l0_13 d14 false _ ?side1 ?side2 A5.out).mono ?_); (case side1 => repeat (first | exact (Kd.C_below HR0_13.out HB.out) | (with_reducible refine Kd.C_alloc ?_ _) | (with_reducible refine Kd.C_drewN ?_ _) | (with_reducible refine Kd.C_drew ?_))); (case side2 => exact HC0_13.out); rintro e w8 ⟨rfl, hb⟩; refine ⟨_, rfl, ?_⟩; replace BK516 := As (blk_below (kb BK516.out) hb); replace HB := As (below_step (kB1 HB.out GE516.out) hb); (try clear hb); have hcz9_0 := cells_15 BK516.out; have hfz9_0 := fun j_ => blk_frozen BK516.out j_))
  go_meet
  case rel => exact ⟨_, (decide ((d14.size : Int) > 3000)), kS, H', ⟨by first | omega | exact Nat.le_refl _⟩, ⟨kb BK516.out⟩, ⟨kB1 HB.out GE516.out⟩⟩
 clear HC3
 obtain ⟨kq, x17_2, rfl, HA, HJ2, BK516, HB⟩ := hcut
 cases kq with
 | zero => exact absurd HA.out (by simp [intrusionlaw11_Ipv4Splits.j0])
 | succ kj2 =>
  have H := HA.out
  clear HA
  simp only [intrusionlaw11_Ipv4Splits.j0] at H
  by_cases c10 : x17_2 = true
  ·subst c10
   rw [if_pos rfl] at H
   replace H := bS H
   obtain ⟨t518, A11, H⟩ := H
   obtain rfl := Option.some.inj H
   go_wp2_with (first | ((with_reducible refine gate_callee (f := 10) rfl ?_); refine goesL_ (some 18) rfl rfl Try.func10 (by kernel_rfl) rfl #[] rfl kA ?_; (with_reducible refine (intrusionlaw11_awake.calls kj2  t518 _ A11.out).mono ?_); rintro e w12 ⟨rfl, hb⟩; refine ⟨_, rfl, ?_⟩; replace BK516 := As (blk_below (kb BK516.out) hb); replace HB := As (below_step (kB1 HB.out GE516.out) hb); (try clear hb)))
   go_ret
   exact ⟨kE, by exact kB1 HB.out GE516.out⟩
  replace c10 := Bool.eq_false_iff.mpr c10
  subst c10
  rw [if_neg (show ¬ (false = true) by decide)] at H
  replace H := bS H
  obtain ⟨⟨t519, t522⟩, A13, H⟩ := H
  try dsimp -simprocs only at H
  replace H := bS H
  obtain ⟨⟨t523, t526⟩, A14, H⟩ := H
  try dsimp -simprocs only at H
  have HC15 := As H
  clear H
  go_upto_region 5 with (first | ((with_reducible refine gate_dst (N := 20) rfl ?_); (try (refine gate_guard (by rfl) ?_; dsimp only)); refine wpList_load_row rfl 28 _ rfl gb516 rfl 28 _ (0, 0) _ (kb BK516.out) Try.underlying28 rfl (by kernel_rfl) ?_) | ((with_reducible refine gate_callee (f := 21) rfl ?_); refine goesL_ (some 22) rfl rfl Try.func21 (by kernel_rfl) rfl #[.agg #[.int .i64 d0, .int .i64 d1, .int .i64 d2, .int .i64 d3, .bool d4, .bool d5, .int .i64 d6, .bool d7, .int .u64 d8, .int .u64 d9, .bool d10, .int .u64 d11, .int .u64 d12, .slice A0_13 l0_13.length c0_13, .string d14], .int .i64 a1] rfl kA ?_; (with_reducible refine (ipv4_Split.calls kj2 d0 d1 d2 d3 d4 d5 d6 d7 d8 d9 d10 d11 d12 _ _ l0_13 d14 a1 t519 t522 _ ?side1 ?side2 A13.out).mono ?_); (case side1 => repeat (first | exact (Kd.C_below HR0_13.out HB.out) | (with_reducible refine Kd.C_alloc ?_ _) | (with_reducible refine Kd.C_drewN ?_ _) | (with_reducible refine Kd.C_drew ?_))); (case side2 => exact HC0_13.out); rintro e w16 ⟨v520, rfl, ho0, hb⟩; refine ⟨_, rfl, ?_⟩; have HO521 := As (Kd.N_lower (Kd.N_mono (ok' := fun k_ => k_ ≠ gb516) (Kd.S_N (Kd.S_bound ho0)) (fun k_ hk_ => (Kd.freshB (kb BK516.out) k_ hk_.2.1))) (below_size (kB1 HB.out GE516.out))); replace BK516 := As (blk_below (kb BK516.out) hb); replace HB := As (below_step (kB1 HB.out GE516.out) hb); (try clear hb); (try clear ho0)) | ((with_reducible refine gate_dst (N := 26) rfl ?_); (try (refine gate_guard (by rfl) ?_; dsimp only)); refine wpList_load_row rfl 28 _ rfl gb516 rfl 28 _ (0, 0) _ (kb BK516.out) Try.underlying28 rfl (by kernel_rfl) ?_) | ((with_reducible refine gate_callee (f := 22) rfl ?_); refine goesL_ (some 28) rfl rfl Try.func22 (by kernel_rfl) rfl #[.agg #[.int .i64 d0, .int .i64 d1, .int .i64 d2, .int .i64 d3, .bool d4, .bool d5, .int .i64 d6, .bool d7, .int .u64 d8, .int .u64 d9, .bool d10, .int .u64 d11, .int .u64 d12, .slice A0_13 l0_13.length c0_13, .string d14], .int .i64 a1] rfl kA ?_; (with_reducible refine (intrusionref11_Split.calls kj2 d0 d1 d2 d3 d4 d5 d6 d7 d8 d9 d10 d11 d12 _ _ l0_13 d14 a1 t523 t526 _ ?side1 ?side2 A14.out).mono ?_); (case side1 => repeat (first | exact (Kd.C_below HR0_13.out HB.out) | (with_reducible refine Kd.C_alloc ?_ _) | (with_reducible refine Kd.C_drewN ?_ _) | (with_reducible refine Kd.C_drew ?_))); (case side2 => exact HC0_13.out); rintro e w17 ⟨v524, rfl, ho0, hb⟩; refine ⟨_, rfl, ?_⟩; have HO525 := As (Kd.N_lower (Kd.N_mono (ok' := fun k_ => some k_ ≠ (v520 : Value).ownBlock ∧ k_ ≠ gb516) ho0 (fun k_ hk_ => ⟨(Kd.fresh' (Kd.N_lt (by (with_reducible repeat (first | apply Kd.N_alloc | apply Kd.N_drewN | apply Kd.N_drew)); exact HO521.out)) k_ hk_), (Kd.freshB (kb BK516.out) k_ hk_)⟩)) (below_size (kB1 HB.out GE516.out))); replace HO521 := As (Kd.N_elder' (by (with_reducible repeat (first | apply Kd.N_alloc | apply Kd.N_drewN | apply Kd.N_drew)); exact HO521.out) (Kd.N_base ho0) hb); replace BK516 := As (blk_below (kb BK516.out) hb); replace HB := As (below_step (kB1 HB.out GE516.out) hb); (try clear hb); (try clear ho0)))
  (try simp only [Act.put, sA, sZ, sS])
  go_cut [40] (fun v40 wc => ∃ (kq : Nat) (x40_14 : Bool), v40 = .bool x40_14 ∧ Aside0 (intrusionlaw11_Ipv4Splits.j1 kq t519 t523 x40_14 = some r) ∧ Aside0 (kq ≤ kj2) ∧ Aside0 (Kd.N k28 28 wc w.heap.size (fun k_ => some k_ ≠ (v524 : Value).ownBlock ∧ k_ ≠ gb516) v520 t519) ∧ Aside0 (Kd.N k28 28 wc w.heap.size (fun k_ => some k_ ≠ (v520 : Value).ownBlock ∧ k_ ≠ gb516) v524 t523) ∧ Aside0 (wc.heap[gb516]? = some (.cells #[.int .i64 d0, .int .i64 d1, .int .i64 d2, .int .i64 d3, .bool d4, .bool d5, .int .i64 d6, .bool d7, .int .u64 d8, .int .u64 d9, .bool d10, .int .u64 d11, .int .u64 d12, (.slice A0_13 l0_13.length c0_13), .string d14] 28 (0, 0))) ∧ Aside0 (Below w.heap.size w wc))
  case first =>
   have H := HC15.out
   clear HC15
   by_cases c18 : (t519.length : Int) = (t523.length : Int)
   ·rw [if_pos c18] at H
    have c18b0 : ((t519.length : Int) == (t523.length : Int)) = true := beq_iff_eq.mpr c18
    have c18b1 : ((t519.length : Int) != (t523.length : Int)) = false := bne_eq_false_iff_eq.mpr c18
    have c18b2 : (t519.length == t523.length) = true := by first | simpa using c18 | (simp at c18 ⊢; omega)
    clear c18
    (first | rw [c18b0] | (simp only [i64_w, i32_w]; rw [c18b0]) | skip)
    have H' := As H
    clear H
    obtain ⟨Ao19, co19, eo19⟩ := Kd.N_slice HO521.out
    subst eo19
    obtain ⟨Ao20, co20, eo20⟩ := Kd.N_slice HO525.out
    subst eo20
    go_wp2
    go_meet
    case rel => exact ⟨_, ((t522 != t526)), kS, H', ⟨by have := HJ2.out; first | omega | exact Nat.le_refl _⟩, ⟨by (with_reducible repeat (first | apply Kd.N_alloc | apply Kd.N_drewN | apply Kd.N_drew)); exact Kd.N_mono HO521.out (fun _ hk => ⟨hk.2, hk.1⟩)⟩, ⟨by (with_reducible repeat (first | apply Kd.N_alloc | apply Kd.N_drewN | apply Kd.N_drew)); exact HO525.out⟩, ⟨kb BK516.out⟩, ⟨kB1 HB.out GE516.out⟩⟩
   rw [if_neg c18] at H
   have c18b0 : ((t519.length : Int) == (t523.length : Int)) = false := beq_eq_false_iff_ne.mpr c18
   have c18b1 : ((t519.length : Int) != (t523.length : Int)) = true := bne_iff_ne.mpr c18
   have c18b2 : (t519.length == t523.length) = false := by first | simpa using c18 | (simp at c18 ⊢; omega)
   (first | rw [c18b0] | (simp only [i64_w, i32_w]; rw [c18b0]) | skip)
   have H' := As H
   clear H
   obtain ⟨Ao21, co21, eo21⟩ := Kd.N_slice HO521.out
   subst eo21
   obtain ⟨Ao22, co22, eo22⟩ := Kd.N_slice HO525.out
   subst eo22
   go_wp2
   go_meet
   case rel => exact ⟨_, (true), kS, H', ⟨by have := HJ2.out; first | omega | exact Nat.le_refl _⟩, ⟨by (with_reducible repeat (first | apply Kd.N_alloc | apply Kd.N_drewN | apply Kd.N_drew)); exact Kd.N_mono HO521.out (fun _ hk => ⟨hk.2, hk.1⟩)⟩, ⟨by (with_reducible repeat (first | apply Kd.N_alloc | apply Kd.N_drewN | apply Kd.N_drew)); exact HO525.out⟩, ⟨kb BK516.out⟩, ⟨kB1 HB.out GE516.out⟩⟩
  clear HC15
  try clear c10
  obtain ⟨kq, x40_14, rfl, HA, HJ14, HO_5, HO_7, BK516, HB⟩ := hcut
  cases kq with
  | zero => exact absurd HA.out (by simp [intrusionlaw11_Ipv4Splits.j1])
  | succ kj14 =>
   have H := HA.out
   clear HA
   simp only [intrusionlaw11_Ipv4Splits.j1] at H
   by_cases c23 : x40_14 = true
   ·subst c23
    rw [if_pos rfl] at H
    exact absurd H (by simp)
   replace c23 := Bool.eq_false_iff.mpr c23
   subst c23
   rw [if_neg (show ¬ (false = true) by decide)] at H
   have H' := As H
   clear H
   obtain ⟨Ao24, co24, eo24⟩ := Kd.N_slice HO_5.out
   subst eo24
   go_wp2
   go_loopg [43] kj14 (fun kq v43 w' => ∃ (x43_3 : Int), v43 = .int .i64 x43_3 ∧ Aside0 (intrusionlaw11_Ipv4Splits.l0 kq t519 t523 (t519.length : Int) x43_3 = some r) ∧ Aside0 (kq ≤ kj14) ∧ Aside0 (Kd.N k28 28 w' w.heap.size (fun k_ => some k_ ≠ (v524 : Value).ownBlock ∧ k_ ≠ gb516) (.slice Ao24 t519.length co24) t519) ∧ Aside0 (Kd.N k28 28 w' w.heap.size (fun k_ => some k_ ≠ ((.slice Ao24 t519.length co24) : Value).ownBlock ∧ k_ ≠ gb516) v524 t523) ∧ Aside0 (w'.heap[gb516]? = some (.cells #[.int .i64 d0, .int .i64 d1, .int .i64 d2, .int .i64 d3, .bool d4, .bool d5, .int .i64 d6, .bool d7, .int .u64 d8, .int .u64 d9, .bool d10, .int .u64 d11, .int .u64 d12, (.slice A0_13 l0_13.length c0_13), .string d14] 28 (0, 0))) ∧ Aside0 (Below w.heap.size w w'))
   case atStart => exact ⟨(0), kS, H', ⟨Nat.le_refl _⟩, ⟨by (with_reducible repeat (first | apply Kd.N_alloc | apply Kd.N_drewN | apply Kd.N_drew)); exact HO_5.out⟩, ⟨by (with_reducible repeat (first | apply Kd.N_alloc | apply Kd.N_drewN | apply Kd.N_drew)); exact HO_7.out⟩, ⟨kb BK516.out⟩, ⟨kB1 HB.out GE516.out⟩⟩
   clear H'
   try clear c23
   obtain ⟨x43_3, rfl, HA, HK3, HO_5, HO_7, BK516, HB⟩ := hrel
   cases gk with
   | zero => exact absurd HA.out (by simp [intrusionlaw11_Ipv4Splits.l0])
   | succ k3 =>
    have H := HA.out
    clear HA
    simp only [intrusionlaw11_Ipv4Splits.l0] at H
    by_cases c25 : x43_3 < (t519.length : Int)
    ·rw [if_pos c25] at H
     have c25b0 : decide (x43_3 < (t519.length : Int)) = true := decide_eq_true c25
     clear c25
     replace H := iS H
     obtain ⟨c26, H⟩ := H
     have c26b0 := decide_eq_true c26
     clear c26
     replace H := iS H
     obtain ⟨c27, H⟩ := H
     have c27b0 := decide_eq_true c27
     clear c27
     replace H := iS H
     obtain ⟨c28, H⟩ := H
     have c28b0 := decide_eq_true c28
     clear c28
     replace H := bS H
     obtain ⟨t529, A29, H⟩ := H
     by_cases c30 : t529 = true
     ·subst c30
      rw [if_pos rfl] at H
      have H' := As H
      clear H
      try go_wp2
      replace HO_5 := As (Kd.N_drew HO_5.out)
      replace HO_7 := As (Kd.N_drew HO_7.out)
      replace BK516 := As (blk_drew BK516.out)
      replace HB := As (below_drew1 HB.out)
      have p527 : 0 ≤ (x43_3 : Int) := of_decide_eq_true (by first | (with_reducible assumption) | assumption)
      have q527 : x43_3 < (t519.length : Int) := of_decide_eq_true (by first | (with_reducible assumption) | assumption)
      obtain ⟨ad527, A527_13, c527_13, e527, hx527_0, hx527_1, hx527_2, hx527_3, hx527_4, hx527_5, hx527_6, hx527_7, hx527_8, hx527_9, hx527_10, hx527_11, hx527_12, hx527_13, hx527_14, hl527_13, hi527_13⟩ := at_T28 (Kd.N_reads' HO_5.out).2.2 x43_3 p527 q527
      cases e527
      obtain ⟨ce527, hce527, hMe527, hcc527⟩ := Kd.N_get HO_5.out z28 x43_3 p527 (by first | exact q527 | exact of_decide_eq_true (by first | (with_reducible assumption) | assumption) | (have e_ := (Kd.N_reads' HO_5.out).1; omega))
      obtain ⟨ua527_13, uc527_13, rfl, ul527_13, ge527_13⟩ := k28_openF hMe527
      have hv527_13 := hcc527 13 _ rfl
      rw [add_field _ _ 13 (by omega)] at hv527_13
      replace hv527_13 := Option.some.inj (hv527_13.symm.trans hx527_13)
      injection hv527_13 with hva_ hvn_ hvc_
      rw [hva_] at ge527_13
      rw [hvc_] at ul527_13
      have HL527_13 := As (show Kd.V k50 50 _ w.heap.size _ _ ((rd_T28 t519 x43_3).f9) from Kd.V_mk ul527_13 ge527_13)
      clear hva_ hvn_ hvc_ ge527_13 ul527_13
      clear hcc527 hce527
      have HR527_13 := As hi527_13
      have HC527_13 := As hl527_13
      clear hi527_13 hl527_13
      replace p527 := eq_true p527
      replace q527 := eq_true q527
      obtain ⟨Ao32, co32, eo32⟩ := Kd.N_slice HO_7.out
      (first | subst eo32 | (injection eo32 with f1_ f2_ f3_; have f4_ := f1_.symm; have f5_ := f3_.symm; clear f1_ f2_ f3_; subst f4_; subst f5_))
      have p528 : 0 ≤ (x43_3 : Int) := of_decide_eq_true (by first | (with_reducible assumption) | assumption)
      have q528 : x43_3 < (t523.length : Int) := of_decide_eq_true (by first | (with_reducible assumption) | assumption)
      obtain ⟨ad528, A528_13, c528_13, e528, hx528_0, hx528_1, hx528_2, hx528_3, hx528_4, hx528_5, hx528_6, hx528_7, hx528_8, hx528_9, hx528_10, hx528_11, hx528_12, hx528_13, hx528_14, hl528_13, hi528_13⟩ := at_T28 (Kd.N_reads' HO_7.out).2.2 x43_3 p528 q528
      cases e528
      obtain ⟨ce528, hce528, hMe528, hcc528⟩ := Kd.N_get HO_7.out z28 x43_3 p528 (by first | exact q528 | exact of_decide_eq_true (by first | (with_reducible assumption) | assumption) | (have e_ := (Kd.N_reads' HO_7.out).1; omega))
      obtain ⟨ua528_13, uc528_13, rfl, ul528_13, ge528_13⟩ := k28_openF hMe528
      have hv528_13 := hcc528 13 _ rfl
      rw [add_field _ _ 13 (by omega)] at hv528_13
      replace hv528_13 := Option.some.inj (hv528_13.symm.trans hx528_13)
      injection hv528_13 with hva_ hvn_ hvc_
      rw [hva_] at ge528_13
      rw [hvc_] at ul528_13
      have HL528_13 := As (show Kd.V k50 50 _ w.heap.size _ _ ((rd_T28 t523 x43_3).f9) from Kd.V_mk ul528_13 ge528_13)
      clear hva_ hvn_ hvc_ ge528_13 ul528_13
      clear hcc528 hce528
      have HR528_13 := As hi528_13
      have HC528_13 := As hl528_13
      clear hi528_13 hl528_13
      replace p528 := eq_true p528
      replace q528 := eq_true q528
      refine start_ (n := 10) (S := fun w' => w'.cell? (ad527.add ((x43_3).toNat * 15)) = some (.int .i64 ((rd_T28 t519 x43_3).f0)) ∧ w'.cell? ⟨(ad527.add ((x43_3).toNat * 15)).block, (ad527.add ((x43_3).toNat * 15)).off + 1, none⟩ = some (.int .i64 ((rd_T28 t519 x43_3).f1)) ∧ w'.cell? ⟨(ad527.add ((x43_3).toNat * 15)).block, (ad527.add ((x43_3).toNat * 15)).off + 2, none⟩ = some (.int .i64 ((rd_T28 t519 x43_3).f2)) ∧ w'.cell? ⟨(ad527.add ((x43_3).toNat * 15)).block, (ad527.add ((x43_3).toNat * 15)).off + 3, none⟩ = some (.int .i64 ((rd_T28 t519 x43_3).f3)) ∧ w'.cell? ⟨(ad527.add ((x43_3).toNat * 15)).block, (ad527.add ((x43_3).toNat * 15)).off + 4, none⟩ = some (.bool ((rd_T28 t519 x43_3).f4)) ∧ w'.cell? ⟨(ad527.add ((x43_3).toNat * 15)).block, (ad527.add ((x43_3).toNat * 15)).off + 5, none⟩ = some (.bool ((rd_T28 t519 x43_3).f5)) ∧ w'.cell? ⟨(ad527.add ((x43_3).toNat * 15)).block, (ad527.add ((x43_3).toNat * 15)).off + 6, none⟩ = some (.int .i64 ((rd_T28 t519 x43_3).f6)) ∧ w'.cell? ⟨(ad527.add ((x43_3).toNat * 15)).block, (ad527.add ((x43_3).toNat * 15)).off + 7, none⟩ = some (.bool ((rd_T28 t519 x43_3).f7.f0)) ∧ w'.cell? ⟨(ad527.add ((x43_3).toNat * 15)).block, (ad527.add ((x43_3).toNat * 15)).off + 8, none⟩ = some (.int .u64 ((rd_T28 t519 x43_3).f7.f1)) ∧ w'.cell? ⟨(ad527.add ((x43_3).toNat * 15)).block, (ad527.add ((x43_3).toNat * 15)).off + 9, none⟩ = some (.int .u64 ((rd_T28 t519 x43_3).f7.f2)) ∧ w'.cell? ⟨(ad527.add ((x43_3).toNat * 15)).block, (ad527.add ((x43_3).toNat * 15)).off + 10, none⟩ = some (.bool ((rd_T28 t519 x43_3).f8.f0)) ∧ w'.cell? ⟨(ad527.add ((x43_3).toNat * 15)).block, (ad527.add ((x43_3).toNat * 15)).off + 11, none⟩ = some (.int .u64 ((rd_T28 t519 x43_3).f8.f1)) ∧ w'.cell? ⟨(ad527.add ((x43_3).toNat * 15)).block, (ad527.add ((x43_3).toNat * 15)).off + 12, none⟩ = some (.int .u64 ((rd_T28 t519 x43_3).f8.f2)) ∧ w'.cell? ⟨(ad527.add ((x43_3).toNat * 15)).block, (ad527.add ((x43_3).toNat * 15)).off + 13, none⟩ = some (.slice A527_13 ((rd_T28 t519 x43_3).f9).length c527_13) ∧ w'.cell? ⟨(ad527.add ((x43_3).toNat * 15)).block, (ad527.add ((x43_3).toNat * 15)).off + 14, none⟩ = some (.string ((rd_T28 t519 x43_3).f10)) ∧ w'.cell? (ad528.add ((x43_3).toNat * 15)) = some (.int .i64 ((rd_T28 t523 x43_3).f0)) ∧ w'.cell? ⟨(ad528.add ((x43_3).toNat * 15)).block, (ad528.add ((x43_3).toNat * 15)).off + 1, none⟩ = some (.int .i64 ((rd_T28 t523 x43_3).f1)) ∧ w'.cell? ⟨(ad528.add ((x43_3).toNat * 15)).block, (ad528.add ((x43_3).toNat * 15)).off + 2, none⟩ = some (.int .i64 ((rd_T28 t523 x43_3).f2)) ∧ w'.cell? ⟨(ad528.add ((x43_3).toNat * 15)).block, (ad528.add ((x43_3).toNat * 15)).off + 3, none⟩ = some (.int .i64 ((rd_T28 t523 x43_3).f3)) ∧ w'.cell? ⟨(ad528.add ((x43_3).toNat * 15)).block, (ad528.add ((x43_3).toNat * 15)).off + 4, none⟩ = some (.bool ((rd_T28 t523 x43_3).f4)) ∧ w'.cell? ⟨(ad528.add ((x43_3).toNat * 15)).block, (ad528.add ((x43_3).toNat * 15)).off + 5, none⟩ = some (.bool ((rd_T28 t523 x43_3).f5)) ∧ w'.cell? ⟨(ad528.add ((x43_3).toNat * 15)).block, (ad528.add ((x43_3).toNat * 15)).off + 6, none⟩ = some (.int .i64 ((rd_T28 t523 x43_3).f6)) ∧ w'.cell? ⟨(ad528.add ((x43_3).toNat * 15)).block, (ad528.add ((x43_3).toNat * 15)).off + 7, none⟩ = some (.bool ((rd_T28 t523 x43_3).f7.f0)) ∧ w'.cell? ⟨(ad528.add ((x43_3).toNat * 15)).block, (ad528.add ((x43_3).toNat * 15)).off + 8, none⟩ = some (.int .u64 ((rd_T28 t523 x43_3).f7.f1)) ∧ w'.cell? ⟨(ad528.add ((x43_3).toNat * 15)).block, (ad528.add ((x43_3).toNat * 15)).off + 9, none⟩ = some (.int .u64 ((rd_T28 t523 x43_3).f7.f2)) ∧ w'.cell? ⟨(ad528.add ((x43_3).toNat * 15)).block, (ad528.add ((x43_3).toNat * 15)).off + 10, none⟩ = some (.bool ((rd_T28 t523 x43_3).f8.f0)) ∧ w'.cell? ⟨(ad528.add ((x43_3).toNat * 15)).block, (ad528.add ((x43_3).toNat * 15)).off + 11, none⟩ = some (.int .u64 ((rd_T28 t523 x43_3).f8.f1)) ∧ w'.cell? ⟨(ad528.add ((x43_3).toNat * 15)).block, (ad528.add ((x43_3).toNat * 15)).off + 12, none⟩ = some (.int .u64 ((rd_T28 t523 x43_3).f8.f2)) ∧ w'.cell? ⟨(ad528.add ((x43_3).toNat * 15)).block, (ad528.add ((x43_3).toNat * 15)).off + 13, none⟩ = some (.slice A528_13 ((rd_T28 t523 x43_3).f9).length c528_13) ∧ w'.cell? ⟨(ad528.add ((x43_3).toNat * 15)).block, (ad528.add ((x43_3).toNat * 15)).off + 14, none⟩ = some (.string ((rd_T28 t523 x43_3).f10))) (ds := []) #[O, O, O, O, O, O, O, O, O, O] (by kernel_rfl) rfl rfl ⟨hx527_0, hx527_1, hx527_2, hx527_3, hx527_4, hx527_5, hx527_6, hx527_7, hx527_8, hx527_9, hx527_10, hx527_11, hx527_12, hx527_13, hx527_14, hx528_0, hx528_1, hx528_2, hx528_3, hx528_4, hx528_5, hx528_6, hx528_7, hx528_8, hx528_9, hx528_10, hx528_11, hx528_12, hx528_13, hx528_14⟩ (fun hHeld => ?_); refine with_tabW intrusionlaw11_Ipv4Splits.tab10 intrusionlaw11_Ipv4Splits.bits10 (fun HT_ HW_ => ?_)
      generalize wr.drew = w31 at HO_5 HO_7 BK516 HB HL527_13 HL528_13 HR527_13 HR528_13 hx527_0 hx527_1 hx527_10 hx527_11 hx527_12 hx527_13 hx527_14 hx527_2 hx527_3 hx527_4 hx527_5 hx527_6 hx527_7 hx527_8 hx527_9 hx528_0 hx528_1 hx528_10 hx528_11 hx528_12 hx528_13 hx528_14 hx528_2 hx528_3 hx528_4 hx528_5 hx528_6 hx528_7 hx528_8 hx528_9 hHeld ⊢
      refine kP 0 46 #[I, O, O, O, O, O, O, O, O, O] ?_ (any_of HT_.out (by kernel_rfl))
      refine kP 1 47 #[I, I, O, O, O, O, O, O, O, O] ?_ (any_of HT_.out (by kernel_rfl))
      refine kP 2 48 #[I, I, I, O, O, O, O, O, O, O] ?_ (any_of HT_.out (by kernel_rfl))
      refine kP 4 50 #[I, I, I, O, I, O, O, O, O, O] ?_ (any_of HT_.out (by kernel_rfl))
      refine kP 5 51 #[I, I, I, O, I, I, O, O, O, O] ?_ (any_of HT_.out (by kernel_rfl))
      refine kP 6 52 #[I, I, I, O, I, I, I, O, O, O] ?_ (any_of HT_.out (by kernel_rfl))
      refine take_ (i := 3) (N := some 49) (v := ?_) (a' := ?_) #[I, I, I, I, I, I, I, O, O, O] rfl rfl (take_ofW HT_.out HW_.out (by kernel_rfl)) (fun _ _ _ h => h) (Or.inl ⟨by rfl, ?_⟩) hHeld ?_ ?_
      rotate_left
      ·rintro w' ⟨s0, s1, s2, s3, s4, s5, s6, s7, s8, s9, s10, s11, s12, s13, s14, s15, s16, s17, s18, s19, s20, s21, s22, s23, s24, s25, s26, s27, s28, s29⟩
       go_simp
       with_reducible rfl
      rotate_left
      ·simp only [Act.put, sA, sZ, sS, i64_w, i32_w]
       rfl
      refine take_ (i := 7) (N := some 53) (v := ?_) (a' := ?_) #[I, I, I, I, I, I, I, I, O, O] rfl rfl (take_ofW HT_.out HW_.out (by kernel_rfl)) (fun _ _ _ h => h) (Or.inl ⟨by rfl, ?_⟩) hHeld ?_ ?_
      rotate_left
      ·rintro w' ⟨s0, s1, s2, s3, s4, s5, s6, s7, s8, s9, s10, s11, s12, s13, s14, s15, s16, s17, s18, s19, s20, s21, s22, s23, s24, s25, s26, s27, s28, s29⟩
       go_simp
       with_reducible rfl
      rotate_left
      ·simp only [Act.put, sA, sZ, sS, i64_w, i32_w]
       rfl
      refine one_ (i := 8) (N := some 54) #[I, I, I, I, I, I, I, I, I, O] rfl rfl (one_of HT_.out (by kernel_rfl)) (by decide) (fun K hK => ?_)
      refine goes_ Try.func13 (by kernel_rfl) rfl #[.agg #[.int .i64 ((rd_T28 t519 x43_3).f0), .int .i64 ((rd_T28 t519 x43_3).f1), .int .i64 ((rd_T28 t519 x43_3).f2), .int .i64 ((rd_T28 t519 x43_3).f3), .bool ((rd_T28 t519 x43_3).f4), .bool ((rd_T28 t519 x43_3).f5), .int .i64 ((rd_T28 t519 x43_3).f6), .bool ((rd_T28 t519 x43_3).f7.f0), .int .u64 ((rd_T28 t519 x43_3).f7.f1), .int .u64 ((rd_T28 t519 x43_3).f7.f2), .bool ((rd_T28 t519 x43_3).f8.f0), .int .u64 ((rd_T28 t519 x43_3).f8.f1), .int .u64 ((rd_T28 t519 x43_3).f8.f2), .slice A527_13 ((rd_T28 t519 x43_3).f9).length c527_13, .string ((rd_T28 t519 x43_3).f10)], .agg #[.int .i64 ((rd_T28 t523 x43_3).f0), .int .i64 ((rd_T28 t523 x43_3).f1), .int .i64 ((rd_T28 t523 x43_3).f2), .int .i64 ((rd_T28 t523 x43_3).f3), .bool ((rd_T28 t523 x43_3).f4), .bool ((rd_T28 t523 x43_3).f5), .int .i64 ((rd_T28 t523 x43_3).f6), .bool ((rd_T28 t523 x43_3).f7.f0), .int .u64 ((rd_T28 t523 x43_3).f7.f1), .int .u64 ((rd_T28 t523 x43_3).f7.f2), .bool ((rd_T28 t523 x43_3).f8.f0), .int .u64 ((rd_T28 t523 x43_3).f8.f1), .int .u64 ((rd_T28 t523 x43_3).f8.f2), .slice A528_13 ((rd_T28 t523 x43_3).f9).length c528_13, .string ((rd_T28 t523 x43_3).f10)]] (by rfl) rfl rfl kA ?_
      with_reducible refine (intrusionlaw11_same.calls k3 ((rd_T28 t519 x43_3).f0) ((rd_T28 t519 x43_3).f1) ((rd_T28 t519 x43_3).f2) ((rd_T28 t519 x43_3).f3) ((rd_T28 t519 x43_3).f4) ((rd_T28 t519 x43_3).f5) ((rd_T28 t519 x43_3).f6) ((rd_T28 t519 x43_3).f7.f0) ((rd_T28 t519 x43_3).f7.f1) ((rd_T28 t519 x43_3).f7.f2) ((rd_T28 t519 x43_3).f8.f0) ((rd_T28 t519 x43_3).f8.f1) ((rd_T28 t519 x43_3).f8.f2) _ _ ((rd_T28 t519 x43_3).f9) ((rd_T28 t519 x43_3).f10) ((rd_T28 t523 x43_3).f0) ((rd_T28 t523 x43_3).f1) ((rd_T28 t523 x43_3).f2) ((rd_T28 t523 x43_3).f3) ((rd_T28 t523 x43_3).f4) ((rd_T28 t523 x43_3).f5) ((rd_T28 t523 x43_3).f6) ((rd_T28 t523 x43_3).f7.f0) ((rd_T28 t523 x43_3).f7.f1) ((rd_T28 t523 x43_3).f7.f2) ((rd_T28 t523 x43_3).f8.f0) ((rd_T28 t523 x43_3).f8.f1) ((rd_T28 t523 x43_3).f8.f2) _ _ ((rd_T28 t523 x43_3).f9) ((rd_T28 t523 x43_3).f10) true _ ?side1 ?side2 ?side3 ?side4 A29.out).mono ?_
      (case side1 => repeat (first | exact (by repeat (first | (with_reducible exact HR527_13.out) | (with_reducible refine Kd.C_alloc ?_ _) | (with_reducible refine Kd.C_drewN ?_ _) | (with_reducible refine Kd.C_drew ?_) | exact HR527_13.out)) | (with_reducible refine Kd.C_alloc ?_ _) | (with_reducible refine Kd.C_drewN ?_ _) | (with_reducible refine Kd.C_drew ?_)))
      (case side2 => exact HC527_13.out)
      (case side3 => repeat (first | exact (by repeat (first | (with_reducible exact HR528_13.out) | (with_reducible refine Kd.C_alloc ?_ _) | (with_reducible refine Kd.C_drewN ?_ _) | (with_reducible refine Kd.C_drew ?_) | exact HR528_13.out)) | (with_reducible refine Kd.C_alloc ?_ _) | (with_reducible refine Kd.C_drewN ?_ _) | (with_reducible refine Kd.C_drew ?_)))
      (case side4 => exact HC528_13.out)
      rintro e w33 ⟨rfl, hb⟩
      have ⟨HS0_, HS1_, HS2_, HS3_, HS4_, HS5_, HS6_, HS7_, HS8_, HS9_, HS10_, HS11_, HS12_, HS13_, HS14_, HS15_, HS16_, HS17_, HS18_, HS19_, HS20_, HS21_, HS22_, HS23_, HS24_, HS25_, HS26_, HS27_, HS28_, HS29_⟩ := hHeld
      replace HS0_ := hcell hb HS0_
      replace HS1_ := hcell hb HS1_
      replace HS2_ := hcell hb HS2_
      replace HS3_ := hcell hb HS3_
      replace HS4_ := hcell hb HS4_
      replace HS5_ := hcell hb HS5_
      replace HS6_ := hcell hb HS6_
      replace HS7_ := hcell hb HS7_
      replace HS8_ := hcell hb HS8_
      replace HS9_ := hcell hb HS9_
      replace HS10_ := hcell hb HS10_
      replace HS11_ := hcell hb HS11_
      replace HS12_ := hcell hb HS12_
      replace HS13_ := hcell hb HS13_
      replace HS14_ := hcell hb HS14_
      replace HS15_ := hcell hb HS15_
      replace HS16_ := hcell hb HS16_
      replace HS17_ := hcell hb HS17_
      replace HS18_ := hcell hb HS18_
      replace HS19_ := hcell hb HS19_
      replace HS20_ := hcell hb HS20_
      replace HS21_ := hcell hb HS21_
      replace HS22_ := hcell hb HS22_
      replace HS23_ := hcell hb HS23_
      replace HS24_ := hcell hb HS24_
      replace HS25_ := hcell hb HS25_
      replace HS26_ := hcell hb HS26_
      replace HS27_ := hcell hb HS27_
      replace HS28_ := hcell hb HS28_
      replace HS29_ := hcell hb HS29_
      refine ⟨_, rfl, ?_⟩
      replace HO_5 := As (Kd.N_below (by (with_reducible repeat (first | apply Kd.N_alloc | apply Kd.N_drewN | apply Kd.N_drew)); exact HO_5.out) hb)
      replace HO_7 := As (Kd.N_below (by (with_reducible repeat (first | apply Kd.N_alloc | apply Kd.N_drewN | apply Kd.N_drew)); exact HO_7.out) hb)
      replace HL527_13 := As (Kd.V_below (by (with_reducible repeat (first | apply Kd.V_alloc | apply Kd.V_drewN | apply Kd.V_drew)); exact HL527_13.out) hb)
      replace HL528_13 := As (Kd.V_below (by (with_reducible repeat (first | apply Kd.V_alloc | apply Kd.V_drewN | apply Kd.V_drew)); exact HL528_13.out) hb)
      replace BK516 := As (blk_below (kb BK516.out) hb)
      replace HR527_13 := As (Kd.C_below (by repeat (first | (with_reducible exact HR527_13.out) | (with_reducible refine Kd.C_alloc ?_ _) | (with_reducible refine Kd.C_drewN ?_ _) | (with_reducible refine Kd.C_drew ?_) | exact HR527_13.out)) hb)
      replace HR528_13 := As (Kd.C_below (by repeat (first | (with_reducible exact HR528_13.out) | (with_reducible refine Kd.C_alloc ?_ _) | (with_reducible refine Kd.C_drewN ?_ _) | (with_reducible refine Kd.C_drew ?_) | exact HR528_13.out)) hb)
      replace HB := As (below_step (kB1 HB.out GE516.out) hb)
      (try clear hb)
      (try clear hb2)
      (try clear hk)
      (try clear hi)
      refine hK.out _ _ ⟨HS0_, HS1_, HS2_, HS3_, HS4_, HS5_, HS6_, HS7_, HS8_, HS9_, HS10_, HS11_, HS12_, HS13_, HS14_, HS15_, HS16_, HS17_, HS18_, HS19_, HS20_, HS21_, HS22_, HS23_, HS24_, HS25_, HS26_, HS27_, HS28_, HS29_⟩ (fun hHeld => ?_)
      clear hK K
      refine nP ?_
      refine kP 9 55 #[I, I, I, I, I, I, I, I, I, I] ?_ (any_of HT_.out (by kernel_rfl))
      refine done_ (done_of HT_.out (by kernel_rfl)) ?_
      try go_wp2
      go_roundg k3
      case measure => have := HJ2.out; have := HJ14.out; have := HK3.out; omega
      case rel => exact ⟨(wrap64 (x43_3 + 1)), kS, H', ⟨by have := HJ2.out; have := HJ14.out; have := HK3.out; omega⟩, ⟨by (with_reducible repeat (first | apply Kd.N_alloc | apply Kd.N_drewN | apply Kd.N_drew)); exact HO_5.out⟩, ⟨by (with_reducible repeat (first | apply Kd.N_alloc | apply Kd.N_drewN | apply Kd.N_drew)); exact HO_7.out⟩, ⟨kb BK516.out⟩, ⟨kB1 HB.out GE516.out⟩⟩
     replace c30 := Bool.eq_false_iff.mpr c30
     subst c30
     rw [if_neg (show ¬ (false = true) by decide)] at H
     exact absurd H (by simp)
    rw [if_neg c25] at H
    have c25b0 : decide (x43_3 < (t519.length : Int)) = false := decide_eq_false c25
    clear c25
    replace H := bS H
    obtain ⟨t530, A34, H⟩ := H
    obtain rfl := Option.some.inj H
    go_wp2_with (first | ((with_reducible refine gate_callee (f := 10) rfl ?_); refine goesL_ (some 57) rfl rfl Try.func10 (by kernel_rfl) rfl #[] rfl kA ?_; (with_reducible refine (intrusionlaw11_awake.calls k3  t530 _ A34.out).mono ?_); rintro e w35 ⟨rfl, hb⟩; refine ⟨_, rfl, ?_⟩; replace HO_5 := As (Kd.N_below (by (with_reducible repeat (first | apply Kd.N_alloc | apply Kd.N_drewN | apply Kd.N_drew)); exact HO_5.out) hb); replace HO_7 := As (Kd.N_below (by (with_reducible repeat (first | apply Kd.N_alloc | apply Kd.N_drewN | apply Kd.N_drew)); exact HO_7.out) hb); replace BK516 := As (blk_below (kb BK516.out) hb); replace HB := As (below_step (kB1 HB.out GE516.out) hb); (try clear hb)))
    go_ret
    exact ⟨kE, by exact kB1 HB.out GE516.out⟩

end Go.Proofs.Ytobioaommmgehaa.Z
-- short
-- short2
