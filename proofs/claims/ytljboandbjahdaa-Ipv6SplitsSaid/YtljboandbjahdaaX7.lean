/- What the functions of the translation that this claim's statement reaches compute, each proved by its walk. Written by xprint.py, a program of this claim's author, run over the kit's printer. -/
import Derived.Test.YtljboandbjahdaaX0
import Derived.Test.YtljboandbjahdaaX4
import Derived.Test.YtljboandbjahdaaX6
namespace Go.Proofs.Ytljboandbjahdaa.X
open Go.RowKit Go.Proofs.YtljboandbjahdaaW.PrintWords Go.Proofs.YtljboandbjahdaaW.PrintLast Go.Proofs.YtljboandbjahdaaW.PrintMore
attribute [local go_sem] max2_int min2_int max_two min_two max_three min_three max_four min_four   -- for this text's walks alone
set_option linter.unusedVariables false
set_option linter.unusedSimpArgs false

/-! ### ipv6_check: function 34 -/
mutual
def ipv6_check.j0 : Nat → Bool → Int → Int → Int → Int → Bool → Int → Int → Bool → Int → Int → List (S60) → Bool → Int → Int → Bool → ByteArray → Option (Int)
 | 0, _, _, _, _, _, _, _, _, _, _, _, _, _, _, _, _, _ => none
 | k + 1, x6, b0, b1, b2, b3, b4, b5, b6, b7, b8, b9, b10, b11, b12, b13, b14, b15 => if x6 = true then (some 4) else ((ipv6_extension.f b3).bind fun t209 => (if t209 = true then (ipv6_check.j1 k true b0 b1 b2 b3 b4 b5 b6 b7 b8 b9 b10 b11 b12 b13 b14 b15) else (if b3 = 44 then (ipv6_check.j1 k true b0 b1 b2 b3 b4 b5 b6 b7 b8 b9 b10 b11 b12 b13 b14 b15) else (if b4 = true then (ipv6_check.j1 k (!b7) b0 b1 b2 b3 b4 b5 b6 b7 b8 b9 b10 b11 b12 b13 b14 b15) else (ipv6_check.j1 k true b0 b1 b2 b3 b4 b5 b6 b7 b8 b9 b10 b11 b12 b13 b14 b15)))))
def ipv6_check.j1 : Nat → Bool → Int → Int → Int → Int → Bool → Int → Int → Bool → Int → Int → List (S60) → Bool → Int → Int → Bool → ByteArray → Option (Int)
 | 0, _, _, _, _, _, _, _, _, _, _, _, _, _, _, _, _, _ => none
 | k + 1, x23, b0, b1, b2, b3, b4, b5, b6, b7, b8, b9, b10, b11, b12, b13, b14, b15 => if x23 = true then (some 4) else (if b11 = true then ((ipv6_within.f k 4294967295 (([b12] : List Int))).bind fun t213 => (if t213 = true then ((ipv6_within.f k 65528 (([b13] : List Int))).bind fun t217 => (if t217 = true then (ipv6_check.j2 k ((Int.tmod b13 8) != 0) b0 b1 b2 b3 b4 b5 b6 b7 b8 b9 b10 b11 b12 b13 b14 b15) else (ipv6_check.j2 k true b0 b1 b2 b3 b4 b5 b6 b7 b8 b9 b10 b11 b12 b13 b14 b15))) else (ipv6_check.j2 k true b0 b1 b2 b3 b4 b5 b6 b7 b8 b9 b10 b11 b12 b13 b14 b15))) else (ipv6_check.j2 k false b0 b1 b2 b3 b4 b5 b6 b7 b8 b9 b10 b11 b12 b13 b14 b15))
def ipv6_check.j2 : Nat → Bool → Int → Int → Int → Int → Bool → Int → Int → Bool → Int → Int → List (S60) → Bool → Int → Int → Bool → ByteArray → Option (Int)
 | 0, _, _, _, _, _, _, _, _, _, _, _, _, _, _, _, _, _ => none
 | k + 1, x44, b0, b1, b2, b3, b4, b5, b6, b7, b8, b9, b10, b11, b12, b13, b14, b15 => if x44 = true then (some 4) else (if b11 = true then (ipv6_check.j3 k false b0 b1 b2 b3 b4 b5 b6 b7 b8 b9 b10 b11 b12 b13 b14 b15) else (if b12 = 0 then (if b13 = 0 then (ipv6_check.j3 k b14 b0 b1 b2 b3 b4 b5 b6 b7 b8 b9 b10 b11 b12 b13 b14 b15) else (ipv6_check.j3 k true b0 b1 b2 b3 b4 b5 b6 b7 b8 b9 b10 b11 b12 b13 b14 b15)) else (ipv6_check.j3 k true b0 b1 b2 b3 b4 b5 b6 b7 b8 b9 b10 b11 b12 b13 b14 b15)))
def ipv6_check.j3 : Nat → Bool → Int → Int → Int → Int → Bool → Int → Int → Bool → Int → Int → List (S60) → Bool → Int → Int → Bool → ByteArray → Option (Int)
 | 0, _, _, _, _, _, _, _, _, _, _, _, _, _, _, _, _, _ => none
 | k + 1, x67, b0, b1, b2, b3, b4, b5, b6, b7, b8, b9, b10, b11, b12, b13, b14, b15 => if x67 = true then (some 4) else (if (b10.length : Int) > 8 then (some 9) else (ipv6_check.l0 k b10 (b10.length : Int) 0))
def ipv6_check.l0 : Nat → List (S60) → Int → Int → Option (Int)
 | 0, _, _, _ => none
 | k + 1, x91, x92, x93 => if x93 < x92 then (if 0 ≤ x93 then (if x93 < (x91.length : Int) then ((ipv6_extension.f ((rd_T60 x91 x93).f0)).bind fun t220 => (if t220 = true then (if ((rd_T60 x91 x93).f0) = 0 then (if x93 > 0 then (ipv6_check.j5 k x91 x92 x93 true) else (if (((rd_T60 x91 x93).f1).size : Int) < 6 then (ipv6_check.j5 k x91 x92 x93 true) else (if (((rd_T60 x91 x93).f1).size : Int) > 2046 then (ipv6_check.j5 k x91 x92 x93 true) else (ipv6_check.j5 k x91 x92 x93 (((((rd_T60 x91 x93).f1).size : Int) % 8) != 6))))) else (if (((rd_T60 x91 x93).f1).size : Int) < 6 then (ipv6_check.j5 k x91 x92 x93 true) else (if (((rd_T60 x91 x93).f1).size : Int) > 2046 then (ipv6_check.j5 k x91 x92 x93 true) else (ipv6_check.j5 k x91 x92 x93 (((((rd_T60 x91 x93).f1).size : Int) % 8) != 6))))) else (ipv6_check.j5 k x91 x92 x93 true))) else (none)) else (none)) else (some 0)
def ipv6_check.j5 : Nat → List (S60) → Int → Int → Bool → Option (Int)
 | 0, _, _, _, _ => none
 | k + 1, x91, x92, x93, x126 => if x126 = true then (some 2) else (ipv6_check.l0 k x91 x92 (wrap64 (x93 + 1)))
end
def ipv6_check.f (k : Nat) (d0 : Int) (d1 : Int) (d2 : Int) (d3 : Int) (d4 : Bool) (d5 : Int) (d6 : Int) (d7 : Bool) (d8 : Int) (d9 : Int) (l0_10 : List (S60)) (d11 : Bool) (d12 : Int) (d13 : Int) (d14 : Bool) (d15 : ByteArray) : Option (Int) := (ipv6_within.f k 255 (([d0, d2, d3] : List Int))).bind fun t204 => (if t204 = true then ((ipv6_within.f k 1048575 (([d1] : List Int))).bind fun t208 => (ipv6_check.j0 k (!t208) d0 d1 d2 d3 d4 d5 d6 d7 d8 d9 l0_10 d11 d12 d13 d14 d15)) else (ipv6_check.j0 k true d0 d1 d2 d3 d4 d5 d6 d7 d8 d9 l0_10 d11 d12 d13 d14 d15))
theorem ipv6_check.mono_l : ∀ k, (∀ y0 y1 y2 y3 y4 y5 y6 y7 y8 y9 y10 y11 y12 y13 y14 y15 y16, LeO (ipv6_check.j0 k y0 y1 y2 y3 y4 y5 y6 y7 y8 y9 y10 y11 y12 y13 y14 y15 y16) (ipv6_check.j0 (k + 1) y0 y1 y2 y3 y4 y5 y6 y7 y8 y9 y10 y11 y12 y13 y14 y15 y16)) ∧ (∀ y0 y1 y2 y3 y4 y5 y6 y7 y8 y9 y10 y11 y12 y13 y14 y15 y16, LeO (ipv6_check.j1 k y0 y1 y2 y3 y4 y5 y6 y7 y8 y9 y10 y11 y12 y13 y14 y15 y16) (ipv6_check.j1 (k + 1) y0 y1 y2 y3 y4 y5 y6 y7 y8 y9 y10 y11 y12 y13 y14 y15 y16)) ∧ (∀ y0 y1 y2 y3 y4 y5 y6 y7 y8 y9 y10 y11 y12 y13 y14 y15 y16, LeO (ipv6_check.j2 k y0 y1 y2 y3 y4 y5 y6 y7 y8 y9 y10 y11 y12 y13 y14 y15 y16) (ipv6_check.j2 (k + 1) y0 y1 y2 y3 y4 y5 y6 y7 y8 y9 y10 y11 y12 y13 y14 y15 y16)) ∧ (∀ y0 y1 y2 y3 y4 y5 y6 y7 y8 y9 y10 y11 y12 y13 y14 y15 y16, LeO (ipv6_check.j3 k y0 y1 y2 y3 y4 y5 y6 y7 y8 y9 y10 y11 y12 y13 y14 y15 y16) (ipv6_check.j3 (k + 1) y0 y1 y2 y3 y4 y5 y6 y7 y8 y9 y10 y11 y12 y13 y14 y15 y16)) ∧ (∀ y0 y1 y2, LeO (ipv6_check.l0 k y0 y1 y2) (ipv6_check.l0 (k + 1) y0 y1 y2)) ∧ (∀ y0 y1 y2 y3, LeO (ipv6_check.j5 k y0 y1 y2 y3) (ipv6_check.j5 (k + 1) y0 y1 y2 y3))
 | 0 => ⟨fun _ _ _ _ _ _ _ _ _ _ _ _ _ _ _ _ _ r h => by simp [ipv6_check.j0] at h, fun _ _ _ _ _ _ _ _ _ _ _ _ _ _ _ _ _ r h => by simp [ipv6_check.j1] at h, fun _ _ _ _ _ _ _ _ _ _ _ _ _ _ _ _ _ r h => by simp [ipv6_check.j2] at h, fun _ _ _ _ _ _ _ _ _ _ _ _ _ _ _ _ _ r h => by simp [ipv6_check.j3] at h, fun _ _ _ r h => by simp [ipv6_check.l0] at h, fun _ _ _ _ r h => by simp [ipv6_check.j5] at h⟩
 | k + 1 => by
  obtain ⟨ih0, ih1, ih2, ih3, ih4, ih5⟩ := ipv6_check.mono_l k
  refine ⟨?_, ?_, ?_, ?_, ?_, ?_⟩
  ·intro y0 y1 y2 y3 y4 y5 y6 y7 y8 y9 y10 y11 y12 y13 y14 y15 y16
   unfold ipv6_check.j0
   repeat' first | with_reducible first | apply ih0 | apply ih1 | apply ih2 | apply ih3 | apply ih4 | apply ih5 | apply ipv6_within.mono | apply LeO.refl | apply LeO.none | refine LeO.ite ?_ ?_ | refine LeO.bind ?_ (fun _ => ?_)
  ·intro y0 y1 y2 y3 y4 y5 y6 y7 y8 y9 y10 y11 y12 y13 y14 y15 y16
   unfold ipv6_check.j1
   repeat' first | with_reducible first | apply ih0 | apply ih1 | apply ih2 | apply ih3 | apply ih4 | apply ih5 | apply ipv6_within.mono | apply LeO.refl | apply LeO.none | refine LeO.ite ?_ ?_ | refine LeO.bind ?_ (fun _ => ?_)
  ·intro y0 y1 y2 y3 y4 y5 y6 y7 y8 y9 y10 y11 y12 y13 y14 y15 y16
   unfold ipv6_check.j2
   repeat' first | with_reducible first | apply ih0 | apply ih1 | apply ih2 | apply ih3 | apply ih4 | apply ih5 | apply ipv6_within.mono | apply LeO.refl | apply LeO.none | refine LeO.ite ?_ ?_ | refine LeO.bind ?_ (fun _ => ?_)
  ·intro y0 y1 y2 y3 y4 y5 y6 y7 y8 y9 y10 y11 y12 y13 y14 y15 y16
   unfold ipv6_check.j3
   repeat' first | with_reducible first | apply ih0 | apply ih1 | apply ih2 | apply ih3 | apply ih4 | apply ih5 | apply ipv6_within.mono | apply LeO.refl | apply LeO.none | refine LeO.ite ?_ ?_ | refine LeO.bind ?_ (fun _ => ?_)
  ·intro y0 y1 y2
   unfold ipv6_check.l0
   repeat' first | with_reducible first | apply ih0 | apply ih1 | apply ih2 | apply ih3 | apply ih4 | apply ih5 | apply ipv6_within.mono | apply LeO.refl | apply LeO.none | refine LeO.ite ?_ ?_ | refine LeO.bind ?_ (fun _ => ?_)
  intro y0 y1 y2 y3
  unfold ipv6_check.j5
  repeat' first | with_reducible first | apply ih0 | apply ih1 | apply ih2 | apply ih3 | apply ih4 | apply ih5 | apply ipv6_within.mono | apply LeO.refl | apply LeO.none | refine LeO.ite ?_ ?_ | refine LeO.bind ?_ (fun _ => ?_)
theorem ipv6_check.mono : ∀ a0 a1 a2 a3 a4 a5 a6 a7 a8 a9 a10 a11 a12 a13 a14 a15 k, LeO (ipv6_check.f k a0 a1 a2 a3 a4 a5 a6 a7 a8 a9 a10 a11 a12 a13 a14 a15) (ipv6_check.f (k + 1) a0 a1 a2 a3 a4 a5 a6 a7 a8 a9 a10 a11 a12 a13 a14 a15) := by
 intro a0 a1 a2 a3 a4 a5 a6 a7 a8 a9 a10 a11 a12 a13 a14 a15 k
 obtain ⟨ih0, ih1, ih2, ih3, ih4, ih5⟩ := ipv6_check.mono_l k
 unfold ipv6_check.f
 repeat' first | with_reducible first | apply ih0 | apply ih1 | apply ih2 | apply ih3 | apply ih4 | apply ih5 | apply ipv6_within.mono | apply LeO.refl | apply LeO.none | refine LeO.ite ?_ ?_ | refine LeO.bind ?_ (fun _ => ?_)
set_option maxHeartbeats 8000000 in
set_option maxRecDepth 100000 in
theorem ipv6_check.calls (k : Nat) (d0 : Int) (d1 : Int) (d2 : Int) (d3 : Int) (d4 : Bool) (d5 : Int) (d6 : Int) (d7 : Bool) (d8 : Int) (d9 : Int) (A0_10 : Option Addr) (c0_10 : Nat) (l0_10 : List (S60)) (d11 : Bool) (d12 : Int) (d13 : Int) (d14 : Bool) (d15 : ByteArray) (r : Int) (w : World) (hr0_10 : Kd.C k60 w A0_10 l0_10.length l0_10) (hc0_10 : l0_10.length ≤ c0_10) (h : ipv6_check.f k d0 d1 d2 d3 d4 d5 d6 d7 d8 d9 l0_10 d11 d12 d13 d14 d15 = some r) :
  Calls Try.prog 34 #[.agg #[.int .i64 d0, .int .i64 d1, .int .i64 d2, .int .i64 d3, .bool d4, .int .u64 d5, .int .u64 d6, .bool d7, .int .u64 d8, .int .u64 d9, .slice A0_10 l0_10.length c0_10, .bool d11, .int .i64 d12, .int .i64 d13, .bool d14, .string d15]] w fun e w' => e = .returned (.int .i64 r) ∧ Below w.heap.size w w' := by
 have hu28 := Try.underlying28
 have hu60 := Try.underlying60
 have HR0_10 := As hr0_10
 have HC0_10 := As hc0_10
 clear hr0_10 hc0_10
 have HB := As (Below.refl w.heap.size w)
 have H : ((ipv6_within.f k 255 (([d0, d2, d3] : List Int))).bind fun t204 => (if t204 = true then ((ipv6_within.f k 1048575 (([d1] : List Int))).bind fun t208 => (ipv6_check.j0 k (!t208) d0 d1 d2 d3 d4 d5 d6 d7 d8 d9 l0_10 d11 d12 d13 d14 d15)) else (ipv6_check.j0 k true d0 d1 d2 d3 d4 d5 d6 d7 d8 d9 l0_10 d11 d12 d13 d14 d15))) = some r := h
 clear h
 have HC2 := As H
 clear H
 go_enter Try.func34, Try.ntmps34
 go_upto_region 1 with (first | ((with_reducible refine gate_dst (N := 1) rfl ?_); (try (refine gate_guard (by rfl) ?_; dsimp only)); refine box_event rfl (N := 1) rfl (cs := #[.int .i64 d0, .int .i64 d1, .int .i64 d2, .int .i64 d3, .bool d4, .int .u64 d5, .int .u64 d6, .bool d7, .int .u64 d8, .int .u64 d9, .slice A0_10 l0_10.length c0_10, .bool d11, .int .i64 d12, .int .i64 d13, .bool d14, .string d15]) (t := 28) kG ?_; intro gb200 hg w3 hbox hb; have BK200 := As (hbox); have GW200 := As ((by rw [hg]; exact (below_size (kB HB.out)) : w.heap.size ≤ gb200)); have GE200 := As ((by rw [hg]; exact (below_size (kB HB.out)) : w.heap.size ≤ gb200)); replace HB := As (below_step (kB HB.out) hb); clear hb hbox hg))
 (try simp only [Act.put, sA, sZ, sS])
 go_cut [6] (fun v6 wc => ∃ (kq : Nat) (x6_1 : Bool), v6 = .bool x6_1 ∧ Aside0 (ipv6_check.j0 kq x6_1 d0 d1 d2 d3 d4 d5 d6 d7 d8 d9 l0_10 d11 d12 d13 d14 d15 = some r) ∧ Aside0 (kq ≤ k) ∧ Aside0 (wc.heap[gb200]? = some (.cells #[.int .i64 d0, .int .i64 d1, .int .i64 d2, .int .i64 d3, .bool d4, .int .u64 d5, .int .u64 d6, .bool d7, .int .u64 d8, .int .u64 d9, (.slice A0_10 l0_10.length c0_10), .bool d11, .int .i64 d12, .int .i64 d13, .bool d14, .string d15] 28 (0, 0))) ∧ Aside0 (Below w.heap.size w wc))
 case first =>
  have H := HC2.out
  clear HC2
  obtain ⟨y201, hy201⟩ : ∃ y_ : List Int, y_ = (([d0, d2, d3] : List Int)) := ⟨_, rfl⟩
  replace H : ((ipv6_within.f k 255 y201).bind fun t204 => (if t204 = true then ((ipv6_within.f k 1048575 (([d1] : List Int))).bind fun t208 => (ipv6_check.j0 k (!t208) d0 d1 d2 d3 d4 d5 d6 d7 d8 d9 l0_10 d11 d12 d13 d14 d15)) else (ipv6_check.j0 k true d0 d1 d2 d3 d4 d5 d6 d7 d8 d9 l0_10 d11 d12 d13 d14 d15))) = some r := by first | (rw [hy201]; with_reducible exact H) | (have H2_ := (Option.bind_some _ _).symm.trans H; rw [hy201]; with_reducible exact H2_) | (have H2_ := (Option.bind_some _ _).symm.trans H; with_reducible exact H2_) | with_reducible exact H | (rw [hy201]; exact H) | exact H
  have Ny201 := As hy201
  clear hy201
  replace H := Option.bind_eq_some_iff.mp H
  obtain ⟨t204, A40, H⟩ := H
  replace H : (if t204 = true then ((ipv6_within.f k 1048575 (([d1] : List Int))).bind fun t208 => (ipv6_check.j0 k (!t208) d0 d1 d2 d3 d4 d5 d6 d7 d8 d9 l0_10 d11 d12 d13 d14 d15)) else (ipv6_check.j0 k true d0 d1 d2 d3 d4 d5 d6 d7 d8 d9 l0_10 d11 d12 d13 d14 d15)) = some r := H
  have A4 := As A40
  clear A40
  by_cases c5 : t204 = true
  ·subst c5
   have H1 : ((ipv6_within.f k 1048575 (([d1] : List Int))).bind fun t208 => (ipv6_check.j0 k (!t208) d0 d1 d2 d3 d4 d5 d6 d7 d8 d9 l0_10 d11 d12 d13 d14 d15)) = some r := by rw [if_pos rfl] at H; exact H
   clear H
   have H := H1
   clear H1
   obtain ⟨y205, hy205⟩ : ∃ y_ : List Int, y_ = (([d1] : List Int)) := ⟨_, rfl⟩
   replace H : ((ipv6_within.f k 1048575 y205).bind fun t208 => (ipv6_check.j0 k (!t208) d0 d1 d2 d3 d4 d5 d6 d7 d8 d9 l0_10 d11 d12 d13 d14 d15)) = some r := by first | (rw [hy205]; with_reducible exact H) | (have H2_ := (Option.bind_some _ _).symm.trans H; rw [hy205]; with_reducible exact H2_) | (have H2_ := (Option.bind_some _ _).symm.trans H; with_reducible exact H2_) | with_reducible exact H | (rw [hy205]; exact H) | exact H
   have Ny205 := As hy205
   clear hy205
   replace H := Option.bind_eq_some_iff.mp H
   obtain ⟨t208, A60, H⟩ := H
   replace H : (ipv6_check.j0 k (!t208) d0 d1 d2 d3 d4 d5 d6 d7 d8 d9 l0_10 d11 d12 d13 d14 d15) = some r := H
   have A6 := As A60
   clear A60
   have H' := As H
   clear H
   have hcz7_0 := cells_16 BK200.out
   have hfz7_0 := fun j_ => blk_frozen BK200.out j_
   go_wp2_with (first | ((with_reducible refine gate_dst (N := 13) rfl ?_); (try (refine gate_guard (by rfl) ?_; dsimp only)); refine Kd.R_lit (Kd.int .i64) _ 3 rfl (N := 13) rfl (xs := ([d0, d2, d3] : List Int)) (inner := [.int .i64 d0, .int .i64 d2, .int .i64 d3]) (ok := fun _ => True) (okp := fun _ => True) kG ?hp (fun _ hk => hk) trivial (Below.refl _ _) (Nat.le_refl _) (by simp) ?_; (case hp => exact (Reps.one (show Kd.M (Kd.int .i64) _ _ _ d0 [.int .i64 d0] from rfl) (Reps.one (show Kd.M (Kd.int .i64) _ _ _ d2 [.int .i64 d2] from rfl) (Reps.one (show Kd.M (Kd.int .i64) _ _ _ d3 [.int .i64 d3] from rfl) (Reps.none _ _))))); intro v202 w8 ho9 hb hg_ hnew_; clear hg_ hnew_; (first | rw [← Ny201.out] at ho9 | (simp only [Int.reduceToNat] at ho9; rw [← Ny201.out] at ho9)); have HO203 := As (Kd.R_lower ho9 (below_size (kB1 HB.out GE200.out))); replace BK200 := As (blk_below (kb BK200.out) hb); replace HB := As (below_step (kB1 HB.out GE200.out) hb); clear hb ho9; obtain ⟨Ao10, co10, eo10⟩ := Kd.R_slice HO203.out; subst eo10) | ((with_reducible refine gate_callee (f := 40) rfl ?_); refine goesL_ (some 14) rfl rfl Try.func40 (by kernel_rfl) rfl #[.int .i64 255, .slice Ao10 y201.length co10] rfl kA ?_; (with_reducible refine (ipv6_within.calls k 255 _ _ y201 true _ ?side1 ?side2 A4.out).mono ?_); (case side1 => repeat (first | exact (Kd.R_reads' HO203.out).2.2 | (with_reducible refine Kd.C_alloc ?_ _) | (with_reducible refine Kd.C_drewN ?_ _) | (with_reducible refine Kd.C_drew ?_))); (case side2 => exact (Kd.R_reads' HO203.out).2.1); rintro e w' ⟨rfl, ⟨nd, rfl⟩⟩; refine ⟨_, rfl, ?_⟩; have hcz11_0 := cells_16 BK200.out; have hfz11_0 := fun j_ => blk_frozen BK200.out j_) | ((with_reducible refine gate_dst (N := 19) rfl ?_); (try (refine gate_guard (by rfl) ?_; dsimp only)); refine Kd.R_lit (Kd.int .i64) _ 3 rfl (N := 19) rfl (xs := ([d1] : List Int)) (inner := [.int .i64 d1]) (ok := fun _ => True) (okp := fun _ => True) kG ?hp (fun _ hk => hk) trivial (Below.refl _ _) (Nat.le_refl _) (by simp) ?_; (case hp => exact (Reps.one (show Kd.M (Kd.int .i64) _ _ _ d1 [.int .i64 d1] from rfl) (Reps.none _ _))); intro v206 w12 ho13 hb hg_ hnew_; clear hg_ hnew_; (first | rw [← Ny205.out] at ho13 | (simp only [Int.reduceToNat] at ho13; rw [← Ny205.out] at ho13)); have HO207 := As (Kd.R_lower (Kd.R_new' ho13 (Kd.R_lt (kR HO203.out))) (below_size (kB1 HB.out GE200.out))); replace HO203 := As (Kd.R_elder' (kR HO203.out) (Kd.R_base ho13) hb); replace BK200 := As (blk_below (kb BK200.out) hb); replace HB := As (below_step (kB1 HB.out GE200.out) hb); clear hb ho13; obtain ⟨Ao14, co14, eo14⟩ := Kd.R_slice HO207.out; subst eo14) | (go_at_call 40; (with_reducible refine (ipv6_within.calls k 1048575 _ _ y205 t208 _ ?side1 ?side2 A6.out).mono ?_); (case side1 => repeat (first | exact (Kd.R_reads' HO207.out).2.2 | (with_reducible refine Kd.C_alloc ?_ _) | (with_reducible refine Kd.C_drewN ?_ _) | (with_reducible refine Kd.C_drew ?_))); (case side2 => exact (Kd.R_reads' HO207.out).2.1); rintro e w' ⟨rfl, ⟨nd, rfl⟩⟩))
   go_meet
   case rel => exact ⟨_, (!t208), kS, H', ⟨by first | omega | exact Nat.le_refl _⟩, ⟨kb BK200.out⟩, ⟨kB1 HB.out GE200.out⟩⟩
  replace c5 := Bool.eq_false_iff.mpr c5
  subst c5
  have H1 : (ipv6_check.j0 k true d0 d1 d2 d3 d4 d5 d6 d7 d8 d9 l0_10 d11 d12 d13 d14 d15) = some r := by rw [if_neg (show ¬ (false = true) by decide)] at H; exact H
  clear H
  have H := H1
  clear H1
  have H' := As H
  clear H
  have hcz15_0 := cells_16 BK200.out
  have hfz15_0 := fun j_ => blk_frozen BK200.out j_
  go_wp2_with (first | ((with_reducible refine gate_dst (N := 13) rfl ?_); (try (refine gate_guard (by rfl) ?_; dsimp only)); refine Kd.R_lit (Kd.int .i64) _ 3 rfl (N := 13) rfl (xs := ([d0, d2, d3] : List Int)) (inner := [.int .i64 d0, .int .i64 d2, .int .i64 d3]) (ok := fun _ => True) (okp := fun _ => True) kG ?hp (fun _ hk => hk) trivial (Below.refl _ _) (Nat.le_refl _) (by simp) ?_; (case hp => exact (Reps.one (show Kd.M (Kd.int .i64) _ _ _ d0 [.int .i64 d0] from rfl) (Reps.one (show Kd.M (Kd.int .i64) _ _ _ d2 [.int .i64 d2] from rfl) (Reps.one (show Kd.M (Kd.int .i64) _ _ _ d3 [.int .i64 d3] from rfl) (Reps.none _ _))))); intro v202 w16 ho17 hb hg_ hnew_; clear hg_ hnew_; (first | rw [← Ny201.out] at ho17 | (simp only [Int.reduceToNat] at ho17; rw [← Ny201.out] at ho17)); have HO203 := As (Kd.R_lower ho17 (below_size (kB1 HB.out GE200.out))); replace BK200 := As (blk_below (kb BK200.out) hb); replace HB := As (below_step (kB1 HB.out GE200.out) hb); clear hb ho17; obtain ⟨Ao18, co18, eo18⟩ := Kd.R_slice HO203.out; subst eo18) | ((with_reducible refine gate_callee (f := 40) rfl ?_); refine goesL_ (some 14) rfl rfl Try.func40 (by kernel_rfl) rfl #[.int .i64 255, .slice Ao18 y201.length co18] rfl kA ?_; (with_reducible refine (ipv6_within.calls k 255 _ _ y201 false _ ?side1 ?side2 A4.out).mono ?_); (case side1 => repeat (first | exact (Kd.R_reads' HO203.out).2.2 | (with_reducible refine Kd.C_alloc ?_ _) | (with_reducible refine Kd.C_drewN ?_ _) | (with_reducible refine Kd.C_drew ?_))); (case side2 => exact (Kd.R_reads' HO203.out).2.1); rintro e w' ⟨rfl, ⟨nd, rfl⟩⟩; refine ⟨_, rfl, ?_⟩))
  go_meet
  case rel => exact ⟨_, (true), kS, H', ⟨by first | omega | exact Nat.le_refl _⟩, ⟨kb BK200.out⟩, ⟨kB1 HB.out GE200.out⟩⟩
 clear HC2
 obtain ⟨kq, x6_1, rfl, HA, HJ1, BK200, HB⟩ := hcut
 cases kq with
 | zero => exact absurd HA.out (by simp [ipv6_check.j0])
 | succ kj1 =>
  have H := HA.out
  clear HA
  simp only [ipv6_check.j0] at H
  by_cases c19 : x6_1 = true
  ·subst c19
   have H1 : (some 4) = some r := by rw [if_pos rfl] at H; exact H
   clear H
   have H := H1
   clear H1
   obtain rfl := Option.some.inj H
   go_wp2
   go_ret
   exact ⟨kE, by exact kB1 HB.out GE200.out⟩
  replace c19 := Bool.eq_false_iff.mpr c19
  subst c19
  have H1 : ((ipv6_extension.f d3).bind fun t209 => (if t209 = true then (ipv6_check.j1 kj1 true d0 d1 d2 d3 d4 d5 d6 d7 d8 d9 l0_10 d11 d12 d13 d14 d15) else (if d3 = 44 then (ipv6_check.j1 kj1 true d0 d1 d2 d3 d4 d5 d6 d7 d8 d9 l0_10 d11 d12 d13 d14 d15) else (if d4 = true then (ipv6_check.j1 kj1 (!d7) d0 d1 d2 d3 d4 d5 d6 d7 d8 d9 l0_10 d11 d12 d13 d14 d15) else (ipv6_check.j1 kj1 true d0 d1 d2 d3 d4 d5 d6 d7 d8 d9 l0_10 d11 d12 d13 d14 d15))))) = some r := by rw [if_neg (show ¬ (false = true) by decide)] at H; exact H
  clear H
  have H := H1
  clear H1
  have HC20 := As H
  clear H
  go_upto_region 3 with (fail)
  go_cut [23] (fun v23 wc => ∃ (kq : Nat) (x23_19 : Bool), v23 = .bool x23_19 ∧ Aside0 (ipv6_check.j1 kq x23_19 d0 d1 d2 d3 d4 d5 d6 d7 d8 d9 l0_10 d11 d12 d13 d14 d15 = some r) ∧ Aside0 (kq ≤ kj1) ∧ Aside0 (wc.heap[gb200]? = some (.cells #[.int .i64 d0, .int .i64 d1, .int .i64 d2, .int .i64 d3, .bool d4, .int .u64 d5, .int .u64 d6, .bool d7, .int .u64 d8, .int .u64 d9, (.slice A0_10 l0_10.length c0_10), .bool d11, .int .i64 d12, .int .i64 d13, .bool d14, .string d15] 28 (0, 0))) ∧ Aside0 (Below w.heap.size w wc))
  case first =>
   have H := HC20.out
   clear HC20
   replace H := Option.bind_eq_some_iff.mp H
   obtain ⟨t209, A210, H⟩ := H
   replace H : (if t209 = true then (ipv6_check.j1 kj1 true d0 d1 d2 d3 d4 d5 d6 d7 d8 d9 l0_10 d11 d12 d13 d14 d15) else (if d3 = 44 then (ipv6_check.j1 kj1 true d0 d1 d2 d3 d4 d5 d6 d7 d8 d9 l0_10 d11 d12 d13 d14 d15) else (if d4 = true then (ipv6_check.j1 kj1 (!d7) d0 d1 d2 d3 d4 d5 d6 d7 d8 d9 l0_10 d11 d12 d13 d14 d15) else (ipv6_check.j1 kj1 true d0 d1 d2 d3 d4 d5 d6 d7 d8 d9 l0_10 d11 d12 d13 d14 d15)))) = some r := H
   have A21 := As A210
   clear A210
   by_cases c22 : t209 = true
   ·subst c22
    have H1 : (ipv6_check.j1 kj1 true d0 d1 d2 d3 d4 d5 d6 d7 d8 d9 l0_10 d11 d12 d13 d14 d15) = some r := by rw [if_pos rfl] at H; exact H
    clear H
    have H := H1
    clear H1
    have H' := As H
    clear H
    have hcz23_0 := cells_16 BK200.out
    have hfz23_0 := fun j_ => blk_frozen BK200.out j_
    go_wp2_with (first | ((with_reducible refine gate_callee (f := 45) rfl ?_); refine goesL_ (some 26) rfl rfl Try.func45 (by kernel_rfl) rfl #[.int .i64 d3] rfl kA ?_; (with_reducible refine (ipv6_extension.calls d3 true _ A21.out).mono ?_); rintro e w' ⟨rfl, ⟨nd, rfl⟩⟩; refine ⟨_, rfl, ?_⟩))
    go_meet
    case rel => exact ⟨_, (true), kS, H', ⟨by have := HJ1.out; first | omega | exact Nat.le_refl _⟩, ⟨kb BK200.out⟩, ⟨kB1 HB.out GE200.out⟩⟩
   replace c22 := Bool.eq_false_iff.mpr c22
   subst c22
   have H1 : (if d3 = 44 then (ipv6_check.j1 kj1 true d0 d1 d2 d3 d4 d5 d6 d7 d8 d9 l0_10 d11 d12 d13 d14 d15) else (if d4 = true then (ipv6_check.j1 kj1 (!d7) d0 d1 d2 d3 d4 d5 d6 d7 d8 d9 l0_10 d11 d12 d13 d14 d15) else (ipv6_check.j1 kj1 true d0 d1 d2 d3 d4 d5 d6 d7 d8 d9 l0_10 d11 d12 d13 d14 d15))) = some r := by rw [if_neg (show ¬ (false = true) by decide)] at H; exact H
   clear H
   have H := H1
   clear H1
   by_cases c24 : d3 = 44
   ·rw [if_pos c24] at H
    have c24b0 : (d3 == 44) = true := beq_iff_eq.mpr c24
    have c24b1 : (d3 != 44) = false := bne_eq_false_iff_eq.mpr c24
    clear c24
    (first | rw [c24b0] | (simp only [i64_w, i32_w]; rw [c24b0]) | skip)
    have H' := As H
    clear H
    have hcz25_0 := cells_16 BK200.out
    have hfz25_0 := fun j_ => blk_frozen BK200.out j_
    go_wp2_with (first | ((with_reducible refine gate_callee (f := 45) rfl ?_); refine goesL_ (some 26) rfl rfl Try.func45 (by kernel_rfl) rfl #[.int .i64 d3] rfl kA ?_; (with_reducible refine (ipv6_extension.calls d3 false _ A21.out).mono ?_); rintro e w' ⟨rfl, ⟨nd, rfl⟩⟩; refine ⟨_, rfl, ?_⟩))
    go_meet
    case rel => exact ⟨_, (true), kS, H', ⟨by have := HJ1.out; first | omega | exact Nat.le_refl _⟩, ⟨kb BK200.out⟩, ⟨kB1 HB.out GE200.out⟩⟩
   rw [if_neg c24] at H
   have c24b0 : (d3 == 44) = false := beq_eq_false_iff_ne.mpr c24
   have c24b1 : (d3 != 44) = true := bne_iff_ne.mpr c24
   (first | rw [c24b0] | (simp only [i64_w, i32_w]; rw [c24b0]) | skip)
   by_cases c26 : d4 = true
   ·subst c26
    have H1 : (ipv6_check.j1 kj1 (!d7) d0 d1 d2 d3 true d5 d6 d7 d8 d9 l0_10 d11 d12 d13 d14 d15) = some r := by rw [if_pos rfl] at H; exact H
    clear H
    have H := H1
    clear H1
    have H' := As H
    clear H
    have hcz27_0 := cells_16 BK200.out
    have hfz27_0 := fun j_ => blk_frozen BK200.out j_
    go_wp2_with (first | ((with_reducible refine gate_callee (f := 45) rfl ?_); refine goesL_ (some 26) rfl rfl Try.func45 (by kernel_rfl) rfl #[.int .i64 d3] rfl kA ?_; (with_reducible refine (ipv6_extension.calls d3 false _ A21.out).mono ?_); rintro e w' ⟨rfl, ⟨nd, rfl⟩⟩; refine ⟨_, rfl, ?_⟩))
    go_meet
    case rel => exact ⟨_, (!d7), kS, H', ⟨by have := HJ1.out; first | omega | exact Nat.le_refl _⟩, ⟨kb BK200.out⟩, ⟨kB1 HB.out GE200.out⟩⟩
   replace c26 := Bool.eq_false_iff.mpr c26
   subst c26
   have H1 : (ipv6_check.j1 kj1 true d0 d1 d2 d3 false d5 d6 d7 d8 d9 l0_10 d11 d12 d13 d14 d15) = some r := by rw [if_neg (show ¬ (false = true) by decide)] at H; exact H
   clear H
   have H := H1
   clear H1
   have H' := As H
   clear H
   have hcz28_0 := cells_16 BK200.out
   have hfz28_0 := fun j_ => blk_frozen BK200.out j_
   go_wp2_with (first | ((with_reducible refine gate_callee (f := 45) rfl ?_); refine goesL_ (some 26) rfl rfl Try.func45 (by kernel_rfl) rfl #[.int .i64 d3] rfl kA ?_; (with_reducible refine (ipv6_extension.calls d3 false _ A21.out).mono ?_); rintro e w' ⟨rfl, ⟨nd, rfl⟩⟩; refine ⟨_, rfl, ?_⟩))
   go_meet
   case rel => exact ⟨_, (true), kS, H', ⟨by have := HJ1.out; first | omega | exact Nat.le_refl _⟩, ⟨kb BK200.out⟩, ⟨kB1 HB.out GE200.out⟩⟩
  clear HC20
  try clear c19
  obtain ⟨kq, x23_19, rfl, HA, HJ19, BK200, HB⟩ := hcut
  cases kq with
  | zero => exact absurd HA.out (by simp [ipv6_check.j1])
  | succ kj19 =>
   have H := HA.out
   clear HA
   simp only [ipv6_check.j1] at H
   by_cases c29 : x23_19 = true
   ·subst c29
    have H1 : (some 4) = some r := by rw [if_pos rfl] at H; exact H
    clear H
    have H := H1
    clear H1
    obtain rfl := Option.some.inj H
    go_wp2
    go_ret
    exact ⟨kE, by exact kB1 HB.out GE200.out⟩
   replace c29 := Bool.eq_false_iff.mpr c29
   subst c29
   have H1 : (if d11 = true then ((ipv6_within.f kj19 4294967295 (([d12] : List Int))).bind fun t213 => (if t213 = true then ((ipv6_within.f kj19 65528 (([d13] : List Int))).bind fun t217 => (if t217 = true then (ipv6_check.j2 kj19 ((Int.tmod d13 8) != 0) d0 d1 d2 d3 d4 d5 d6 d7 d8 d9 l0_10 d11 d12 d13 d14 d15) else (ipv6_check.j2 kj19 true d0 d1 d2 d3 d4 d5 d6 d7 d8 d9 l0_10 d11 d12 d13 d14 d15))) else (ipv6_check.j2 kj19 true d0 d1 d2 d3 d4 d5 d6 d7 d8 d9 l0_10 d11 d12 d13 d14 d15))) else (ipv6_check.j2 kj19 false d0 d1 d2 d3 d4 d5 d6 d7 d8 d9 l0_10 d11 d12 d13 d14 d15)) = some r := by rw [if_neg (show ¬ (false = true) by decide)] at H; exact H
   clear H
   have H := H1
   clear H1
   have HC30 := As H
   clear H
   go_upto_region 5 with (fail)
   go_cut [44] (fun v44 wc => ∃ (kq : Nat) (x44_29 : Bool), v44 = .bool x44_29 ∧ Aside0 (ipv6_check.j2 kq x44_29 d0 d1 d2 d3 d4 d5 d6 d7 d8 d9 l0_10 d11 d12 d13 d14 d15 = some r) ∧ Aside0 (kq ≤ kj19) ∧ Aside0 (wc.heap[gb200]? = some (.cells #[.int .i64 d0, .int .i64 d1, .int .i64 d2, .int .i64 d3, .bool d4, .int .u64 d5, .int .u64 d6, .bool d7, .int .u64 d8, .int .u64 d9, (.slice A0_10 l0_10.length c0_10), .bool d11, .int .i64 d12, .int .i64 d13, .bool d14, .string d15] 28 (0, 0))) ∧ Aside0 (Below w.heap.size w wc))
   case first =>
    have H := HC30.out
    clear HC30
    by_cases c31 : d11 = true
    ·subst c31
     have H1 : ((ipv6_within.f kj19 4294967295 (([d12] : List Int))).bind fun t213 => (if t213 = true then ((ipv6_within.f kj19 65528 (([d13] : List Int))).bind fun t217 => (if t217 = true then (ipv6_check.j2 kj19 ((Int.tmod d13 8) != 0) d0 d1 d2 d3 d4 d5 d6 d7 d8 d9 l0_10 true d12 d13 d14 d15) else (ipv6_check.j2 kj19 true d0 d1 d2 d3 d4 d5 d6 d7 d8 d9 l0_10 true d12 d13 d14 d15))) else (ipv6_check.j2 kj19 true d0 d1 d2 d3 d4 d5 d6 d7 d8 d9 l0_10 true d12 d13 d14 d15))) = some r := by rw [if_pos rfl] at H; exact H
     clear H
     have H := H1
     clear H1
     obtain ⟨y210, hy210⟩ : ∃ y_ : List Int, y_ = (([d12] : List Int)) := ⟨_, rfl⟩
     replace H : ((ipv6_within.f kj19 4294967295 y210).bind fun t213 => (if t213 = true then ((ipv6_within.f kj19 65528 (([d13] : List Int))).bind fun t217 => (if t217 = true then (ipv6_check.j2 kj19 ((Int.tmod d13 8) != 0) d0 d1 d2 d3 d4 d5 d6 d7 d8 d9 l0_10 true d12 d13 d14 d15) else (ipv6_check.j2 kj19 true d0 d1 d2 d3 d4 d5 d6 d7 d8 d9 l0_10 true d12 d13 d14 d15))) else (ipv6_check.j2 kj19 true d0 d1 d2 d3 d4 d5 d6 d7 d8 d9 l0_10 true d12 d13 d14 d15))) = some r := by first | (rw [hy210]; with_reducible exact H) | (have H2_ := (Option.bind_some _ _).symm.trans H; rw [hy210]; with_reducible exact H2_) | (have H2_ := (Option.bind_some _ _).symm.trans H; with_reducible exact H2_) | with_reducible exact H | (rw [hy210]; exact H) | exact H
     have Ny210 := As hy210
     clear hy210
     replace H := Option.bind_eq_some_iff.mp H
     obtain ⟨t213, A320, H⟩ := H
     replace H : (if t213 = true then ((ipv6_within.f kj19 65528 (([d13] : List Int))).bind fun t217 => (if t217 = true then (ipv6_check.j2 kj19 ((Int.tmod d13 8) != 0) d0 d1 d2 d3 d4 d5 d6 d7 d8 d9 l0_10 true d12 d13 d14 d15) else (ipv6_check.j2 kj19 true d0 d1 d2 d3 d4 d5 d6 d7 d8 d9 l0_10 true d12 d13 d14 d15))) else (ipv6_check.j2 kj19 true d0 d1 d2 d3 d4 d5 d6 d7 d8 d9 l0_10 true d12 d13 d14 d15)) = some r := H
     have A32 := As A320
     clear A320
     by_cases c33 : t213 = true
     ·subst c33
      have H1 : ((ipv6_within.f kj19 65528 (([d13] : List Int))).bind fun t217 => (if t217 = true then (ipv6_check.j2 kj19 ((Int.tmod d13 8) != 0) d0 d1 d2 d3 d4 d5 d6 d7 d8 d9 l0_10 true d12 d13 d14 d15) else (ipv6_check.j2 kj19 true d0 d1 d2 d3 d4 d5 d6 d7 d8 d9 l0_10 true d12 d13 d14 d15))) = some r := by rw [if_pos rfl] at H; exact H
      clear H
      have H := H1
      clear H1
      obtain ⟨y214, hy214⟩ : ∃ y_ : List Int, y_ = (([d13] : List Int)) := ⟨_, rfl⟩
      replace H : ((ipv6_within.f kj19 65528 y214).bind fun t217 => (if t217 = true then (ipv6_check.j2 kj19 ((Int.tmod d13 8) != 0) d0 d1 d2 d3 d4 d5 d6 d7 d8 d9 l0_10 true d12 d13 d14 d15) else (ipv6_check.j2 kj19 true d0 d1 d2 d3 d4 d5 d6 d7 d8 d9 l0_10 true d12 d13 d14 d15))) = some r := by first | (rw [hy214]; with_reducible exact H) | (have H2_ := (Option.bind_some _ _).symm.trans H; rw [hy214]; with_reducible exact H2_) | (have H2_ := (Option.bind_some _ _).symm.trans H; with_reducible exact H2_) | with_reducible exact H | (rw [hy214]; exact H) | exact H
      have Ny214 := As hy214
      clear hy214
      replace H := Option.bind_eq_some_iff.mp H
      obtain ⟨t217, A340, H⟩ := H
      replace H : (if t217 = true then (ipv6_check.j2 kj19 ((Int.tmod d13 8) != 0) d0 d1 d2 d3 d4 d5 d6 d7 d8 d9 l0_10 true d12 d13 d14 d15) else (ipv6_check.j2 kj19 true d0 d1 d2 d3 d4 d5 d6 d7 d8 d9 l0_10 true d12 d13 d14 d15)) = some r := H
      have A34 := As A340
      clear A340
      by_cases c35 : t217 = true
      ·subst c35
       have H1 : (ipv6_check.j2 kj19 ((Int.tmod d13 8) != 0) d0 d1 d2 d3 d4 d5 d6 d7 d8 d9 l0_10 true d12 d13 d14 d15) = some r := by rw [if_pos rfl] at H; exact H
       clear H
       have H := H1
       clear H1
       have H' := As H
       clear H
       have hcz36_0 := cells_16 BK200.out
       have hfz36_0 := fun j_ => blk_frozen BK200.out j_
       go_wp2_with (first | ((with_reducible refine gate_dst (N := 50) rfl ?_); (try (refine gate_guard (by rfl) ?_; dsimp only)); refine Kd.R_lit (Kd.int .i64) _ 3 rfl (N := 50) rfl (xs := ([d12] : List Int)) (inner := [.int .i64 d12]) (ok := fun _ => True) (okp := fun _ => True) kG ?hp (fun _ hk => hk) trivial (Below.refl _ _) (Nat.le_refl _) (by simp) ?_; (case hp => exact (Reps.one (show Kd.M (Kd.int .i64) _ _ _ d12 [.int .i64 d12] from rfl) (Reps.none _ _))); intro v211 w37 ho38 hb hg_ hnew_; clear hg_ hnew_; (first | rw [← Ny210.out] at ho38 | (simp only [Int.reduceToNat] at ho38; rw [← Ny210.out] at ho38)); have HO212 := As (Kd.R_lower ho38 (below_size (kB1 HB.out GE200.out))); replace BK200 := As (blk_below (kb BK200.out) hb); replace HB := As (below_step (kB1 HB.out GE200.out) hb); clear hb ho38; obtain ⟨Ao39, co39, eo39⟩ := Kd.R_slice HO212.out; subst eo39) | (go_at_call 40; (with_reducible refine (ipv6_within.calls kj19 4294967295 _ _ y210 true _ ?side1 ?side2 A32.out).mono ?_); (case side1 => repeat (first | exact (Kd.R_reads' HO212.out).2.2 | (with_reducible refine Kd.C_alloc ?_ _) | (with_reducible refine Kd.C_drewN ?_ _) | (with_reducible refine Kd.C_drew ?_))); (case side2 => exact (Kd.R_reads' HO212.out).2.1); rintro e w' ⟨rfl, ⟨nd, rfl⟩⟩; have hcz40_0 := cells_16 BK200.out; have hfz40_0 := fun j_ => blk_frozen BK200.out j_) | ((with_reducible refine gate_dst (N := 56) rfl ?_); (try (refine gate_guard (by rfl) ?_; dsimp only)); refine Kd.R_lit (Kd.int .i64) _ 3 rfl (N := 56) rfl (xs := ([d13] : List Int)) (inner := [.int .i64 d13]) (ok := fun _ => True) (okp := fun _ => True) kG ?hp (fun _ hk => hk) trivial (Below.refl _ _) (Nat.le_refl _) (by simp) ?_; (case hp => exact (Reps.one (show Kd.M (Kd.int .i64) _ _ _ d13 [.int .i64 d13] from rfl) (Reps.none _ _))); intro v215 w41 ho42 hb hg_ hnew_; clear hg_ hnew_; (first | rw [← Ny214.out] at ho42 | (simp only [Int.reduceToNat] at ho42; rw [← Ny214.out] at ho42)); have HO216 := As (Kd.R_lower (Kd.R_new' ho42 (Kd.R_lt (kR HO212.out))) (below_size (kB1 HB.out GE200.out))); replace HO212 := As (Kd.R_elder' (kR HO212.out) (Kd.R_base ho42) hb); replace BK200 := As (blk_below (kb BK200.out) hb); replace HB := As (below_step (kB1 HB.out GE200.out) hb); clear hb ho42; obtain ⟨Ao43, co43, eo43⟩ := Kd.R_slice HO216.out; subst eo43) | (go_at_call 40; (with_reducible refine (ipv6_within.calls kj19 65528 _ _ y214 true _ ?side1 ?side2 A34.out).mono ?_); (case side1 => repeat (first | exact (Kd.R_reads' HO216.out).2.2 | (with_reducible refine Kd.C_alloc ?_ _) | (with_reducible refine Kd.C_drewN ?_ _) | (with_reducible refine Kd.C_drew ?_))); (case side2 => exact (Kd.R_reads' HO216.out).2.1); rintro e w' ⟨rfl, ⟨nd, rfl⟩⟩; have hcz44_0 := cells_16 BK200.out; have hfz44_0 := fun j_ => blk_frozen BK200.out j_))
       go_meet
       case rel => exact ⟨_, (((Int.tmod d13 8) != 0)), kS, H', ⟨by have := HJ1.out; have := HJ19.out; first | omega | exact Nat.le_refl _⟩, ⟨kb BK200.out⟩, ⟨kB1 HB.out GE200.out⟩⟩
      replace c35 := Bool.eq_false_iff.mpr c35
      subst c35
      have H1 : (ipv6_check.j2 kj19 true d0 d1 d2 d3 d4 d5 d6 d7 d8 d9 l0_10 true d12 d13 d14 d15) = some r := by rw [if_neg (show ¬ (false = true) by decide)] at H; exact H
      clear H
      have H := H1
      clear H1
      have H' := As H
      clear H
      have hcz45_0 := cells_16 BK200.out
      have hfz45_0 := fun j_ => blk_frozen BK200.out j_
      go_wp2_with (first | ((with_reducible refine gate_dst (N := 50) rfl ?_); (try (refine gate_guard (by rfl) ?_; dsimp only)); refine Kd.R_lit (Kd.int .i64) _ 3 rfl (N := 50) rfl (xs := ([d12] : List Int)) (inner := [.int .i64 d12]) (ok := fun _ => True) (okp := fun _ => True) kG ?hp (fun _ hk => hk) trivial (Below.refl _ _) (Nat.le_refl _) (by simp) ?_; (case hp => exact (Reps.one (show Kd.M (Kd.int .i64) _ _ _ d12 [.int .i64 d12] from rfl) (Reps.none _ _))); intro v211 w46 ho47 hb hg_ hnew_; clear hg_ hnew_; (first | rw [← Ny210.out] at ho47 | (simp only [Int.reduceToNat] at ho47; rw [← Ny210.out] at ho47)); have HO212 := As (Kd.R_lower ho47 (below_size (kB1 HB.out GE200.out))); replace BK200 := As (blk_below (kb BK200.out) hb); replace HB := As (below_step (kB1 HB.out GE200.out) hb); clear hb ho47; obtain ⟨Ao48, co48, eo48⟩ := Kd.R_slice HO212.out; subst eo48) | (go_at_call 40; (with_reducible refine (ipv6_within.calls kj19 4294967295 _ _ y210 true _ ?side1 ?side2 A32.out).mono ?_); (case side1 => repeat (first | exact (Kd.R_reads' HO212.out).2.2 | (with_reducible refine Kd.C_alloc ?_ _) | (with_reducible refine Kd.C_drewN ?_ _) | (with_reducible refine Kd.C_drew ?_))); (case side2 => exact (Kd.R_reads' HO212.out).2.1); rintro e w' ⟨rfl, ⟨nd, rfl⟩⟩; have hcz49_0 := cells_16 BK200.out; have hfz49_0 := fun j_ => blk_frozen BK200.out j_) | ((with_reducible refine gate_dst (N := 56) rfl ?_); (try (refine gate_guard (by rfl) ?_; dsimp only)); refine Kd.R_lit (Kd.int .i64) _ 3 rfl (N := 56) rfl (xs := ([d13] : List Int)) (inner := [.int .i64 d13]) (ok := fun _ => True) (okp := fun _ => True) kG ?hp (fun _ hk => hk) trivial (Below.refl _ _) (Nat.le_refl _) (by simp) ?_; (case hp => exact (Reps.one (show Kd.M (Kd.int .i64) _ _ _ d13 [.int .i64 d13] from rfl) (Reps.none _ _))); intro v215 w50 ho51 hb hg_ hnew_; clear hg_ hnew_; (first | rw [← Ny214.out] at ho51 | (simp only [Int.reduceToNat] at ho51; rw [← Ny214.out] at ho51)); have HO216 := As (Kd.R_lower (Kd.R_new' ho51 (Kd.R_lt (kR HO212.out))) (below_size (kB1 HB.out GE200.out))); replace HO212 := As (Kd.R_elder' (kR HO212.out) (Kd.R_base ho51) hb); replace BK200 := As (blk_below (kb BK200.out) hb); replace HB := As (below_step (kB1 HB.out GE200.out) hb); clear hb ho51; obtain ⟨Ao52, co52, eo52⟩ := Kd.R_slice HO216.out; subst eo52) | (go_at_call 40; (with_reducible refine (ipv6_within.calls kj19 65528 _ _ y214 false _ ?side1 ?side2 A34.out).mono ?_); (case side1 => repeat (first | exact (Kd.R_reads' HO216.out).2.2 | (with_reducible refine Kd.C_alloc ?_ _) | (with_reducible refine Kd.C_drewN ?_ _) | (with_reducible refine Kd.C_drew ?_))); (case side2 => exact (Kd.R_reads' HO216.out).2.1); rintro e w' ⟨rfl, ⟨nd, rfl⟩⟩))
      go_meet
      case rel => exact ⟨_, (true), kS, H', ⟨by have := HJ1.out; have := HJ19.out; first | omega | exact Nat.le_refl _⟩, ⟨kb BK200.out⟩, ⟨kB1 HB.out GE200.out⟩⟩
     replace c33 := Bool.eq_false_iff.mpr c33
     subst c33
     have H1 : (ipv6_check.j2 kj19 true d0 d1 d2 d3 d4 d5 d6 d7 d8 d9 l0_10 true d12 d13 d14 d15) = some r := by rw [if_neg (show ¬ (false = true) by decide)] at H; exact H
     clear H
     have H := H1
     clear H1
     have H' := As H
     clear H
     have hcz53_0 := cells_16 BK200.out
     have hfz53_0 := fun j_ => blk_frozen BK200.out j_
     go_wp2_with (first | ((with_reducible refine gate_dst (N := 50) rfl ?_); (try (refine gate_guard (by rfl) ?_; dsimp only)); refine Kd.R_lit (Kd.int .i64) _ 3 rfl (N := 50) rfl (xs := ([d12] : List Int)) (inner := [.int .i64 d12]) (ok := fun _ => True) (okp := fun _ => True) kG ?hp (fun _ hk => hk) trivial (Below.refl _ _) (Nat.le_refl _) (by simp) ?_; (case hp => exact (Reps.one (show Kd.M (Kd.int .i64) _ _ _ d12 [.int .i64 d12] from rfl) (Reps.none _ _))); intro v211 w54 ho55 hb hg_ hnew_; clear hg_ hnew_; (first | rw [← Ny210.out] at ho55 | (simp only [Int.reduceToNat] at ho55; rw [← Ny210.out] at ho55)); have HO212 := As (Kd.R_lower ho55 (below_size (kB1 HB.out GE200.out))); replace BK200 := As (blk_below (kb BK200.out) hb); replace HB := As (below_step (kB1 HB.out GE200.out) hb); clear hb ho55; obtain ⟨Ao56, co56, eo56⟩ := Kd.R_slice HO212.out; subst eo56) | (go_at_call 40; (with_reducible refine (ipv6_within.calls kj19 4294967295 _ _ y210 false _ ?side1 ?side2 A32.out).mono ?_); (case side1 => repeat (first | exact (Kd.R_reads' HO212.out).2.2 | (with_reducible refine Kd.C_alloc ?_ _) | (with_reducible refine Kd.C_drewN ?_ _) | (with_reducible refine Kd.C_drew ?_))); (case side2 => exact (Kd.R_reads' HO212.out).2.1); rintro e w' ⟨rfl, ⟨nd, rfl⟩⟩))
     go_meet
     case rel => exact ⟨_, (true), kS, H', ⟨by have := HJ1.out; have := HJ19.out; first | omega | exact Nat.le_refl _⟩, ⟨kb BK200.out⟩, ⟨kB1 HB.out GE200.out⟩⟩
    replace c31 := Bool.eq_false_iff.mpr c31
    subst c31
    have H1 : (ipv6_check.j2 kj19 false d0 d1 d2 d3 d4 d5 d6 d7 d8 d9 l0_10 false d12 d13 d14 d15) = some r := by rw [if_neg (show ¬ (false = true) by decide)] at H; exact H
    clear H
    have H := H1
    clear H1
    have H' := As H
    clear H
    have hcz57_0 := cells_16 BK200.out
    have hfz57_0 := fun j_ => blk_frozen BK200.out j_
    go_wp2
    go_meet
    case rel => exact ⟨_, (false), kS, H', ⟨by have := HJ1.out; have := HJ19.out; first | omega | exact Nat.le_refl _⟩, ⟨kb BK200.out⟩, ⟨kB1 HB.out GE200.out⟩⟩
   clear HC30
   try clear c29
   obtain ⟨kq, x44_29, rfl, HA, HJ29, BK200, HB⟩ := hcut
   cases kq with
   | zero => exact absurd HA.out (by simp [ipv6_check.j2])
   | succ kj29 =>
    have H := HA.out
    clear HA
    simp only [ipv6_check.j2] at H
    by_cases c58 : x44_29 = true
    ·subst c58
     have H1 : (some 4) = some r := by rw [if_pos rfl] at H; exact H
     clear H
     have H := H1
     clear H1
     obtain rfl := Option.some.inj H
     go_wp2
     go_ret
     exact ⟨kE, by exact kB1 HB.out GE200.out⟩
    replace c58 := Bool.eq_false_iff.mpr c58
    subst c58
    have H1 : (if d11 = true then (ipv6_check.j3 kj29 false d0 d1 d2 d3 d4 d5 d6 d7 d8 d9 l0_10 d11 d12 d13 d14 d15) else (if d12 = 0 then (if d13 = 0 then (ipv6_check.j3 kj29 d14 d0 d1 d2 d3 d4 d5 d6 d7 d8 d9 l0_10 d11 d12 d13 d14 d15) else (ipv6_check.j3 kj29 true d0 d1 d2 d3 d4 d5 d6 d7 d8 d9 l0_10 d11 d12 d13 d14 d15)) else (ipv6_check.j3 kj29 true d0 d1 d2 d3 d4 d5 d6 d7 d8 d9 l0_10 d11 d12 d13 d14 d15))) = some r := by rw [if_neg (show ¬ (false = true) by decide)] at H; exact H
    clear H
    have H := H1
    clear H1
    have HC59 := As H
    clear H
    go_upto_region 7 with (fail)
    go_cut [67] (fun v67 wc => ∃ (kq : Nat) (x67_58 : Bool), v67 = .bool x67_58 ∧ Aside0 (ipv6_check.j3 kq x67_58 d0 d1 d2 d3 d4 d5 d6 d7 d8 d9 l0_10 d11 d12 d13 d14 d15 = some r) ∧ Aside0 (kq ≤ kj29) ∧ Aside0 (wc.heap[gb200]? = some (.cells #[.int .i64 d0, .int .i64 d1, .int .i64 d2, .int .i64 d3, .bool d4, .int .u64 d5, .int .u64 d6, .bool d7, .int .u64 d8, .int .u64 d9, (.slice A0_10 l0_10.length c0_10), .bool d11, .int .i64 d12, .int .i64 d13, .bool d14, .string d15] 28 (0, 0))) ∧ Aside0 (Below w.heap.size w wc))
    case first =>
     have H := HC59.out
     clear HC59
     by_cases c60 : d11 = true
     ·subst c60
      have H1 : (ipv6_check.j3 kj29 false d0 d1 d2 d3 d4 d5 d6 d7 d8 d9 l0_10 true d12 d13 d14 d15) = some r := by rw [if_pos rfl] at H; exact H
      clear H
      have H := H1
      clear H1
      have H' := As H
      clear H
      have hcz61_0 := cells_16 BK200.out
      have hfz61_0 := fun j_ => blk_frozen BK200.out j_
      go_wp2
      go_meet
      case rel => exact ⟨_, (false), kS, H', ⟨by have := HJ1.out; have := HJ19.out; have := HJ29.out; first | omega | exact Nat.le_refl _⟩, ⟨kb BK200.out⟩, ⟨kB1 HB.out GE200.out⟩⟩
     replace c60 := Bool.eq_false_iff.mpr c60
     subst c60
     have H1 : (if d12 = 0 then (if d13 = 0 then (ipv6_check.j3 kj29 d14 d0 d1 d2 d3 d4 d5 d6 d7 d8 d9 l0_10 false d12 d13 d14 d15) else (ipv6_check.j3 kj29 true d0 d1 d2 d3 d4 d5 d6 d7 d8 d9 l0_10 false d12 d13 d14 d15)) else (ipv6_check.j3 kj29 true d0 d1 d2 d3 d4 d5 d6 d7 d8 d9 l0_10 false d12 d13 d14 d15)) = some r := by rw [if_neg (show ¬ (false = true) by decide)] at H; exact H
     clear H
     have H := H1
     clear H1
     by_cases c62 : d12 = 0
     ·rw [if_pos c62] at H
      have c62b0 : (d12 == 0) = true := beq_iff_eq.mpr c62
      have c62b1 : (d12 != 0) = false := bne_eq_false_iff_eq.mpr c62
      clear c62
      (first | rw [c62b0] | (simp only [i64_w, i32_w]; rw [c62b0]) | skip)
      by_cases c63 : d13 = 0
      ·rw [if_pos c63] at H
       have c63b0 : (d13 == 0) = true := beq_iff_eq.mpr c63
       have c63b1 : (d13 != 0) = false := bne_eq_false_iff_eq.mpr c63
       clear c63
       have H' := As H
       clear H
       have hcz64_0 := cells_16 BK200.out
       have hfz64_0 := fun j_ => blk_frozen BK200.out j_
       go_wp2
       go_meet
       case rel => exact ⟨_, (d14), kS, H', ⟨by have := HJ1.out; have := HJ19.out; have := HJ29.out; first | omega | exact Nat.le_refl _⟩, ⟨kb BK200.out⟩, ⟨kB1 HB.out GE200.out⟩⟩
      rw [if_neg c63] at H
      have c63b0 : (d13 == 0) = false := beq_eq_false_iff_ne.mpr c63
      have c63b1 : (d13 != 0) = true := bne_iff_ne.mpr c63
      have H' := As H
      clear H
      have hcz65_0 := cells_16 BK200.out
      have hfz65_0 := fun j_ => blk_frozen BK200.out j_
      go_wp2
      go_meet
      case rel => exact ⟨_, (true), kS, H', ⟨by have := HJ1.out; have := HJ19.out; have := HJ29.out; first | omega | exact Nat.le_refl _⟩, ⟨kb BK200.out⟩, ⟨kB1 HB.out GE200.out⟩⟩
     rw [if_neg c62] at H
     have c62b0 : (d12 == 0) = false := beq_eq_false_iff_ne.mpr c62
     have c62b1 : (d12 != 0) = true := bne_iff_ne.mpr c62
     (first | rw [c62b0] | (simp only [i64_w, i32_w]; rw [c62b0]) | skip)
     have H' := As H
     clear H
     have hcz66_0 := cells_16 BK200.out
     have hfz66_0 := fun j_ => blk_frozen BK200.out j_
     go_wp2
     go_meet
     case rel => exact ⟨_, (true), kS, H', ⟨by have := HJ1.out; have := HJ19.out; have := HJ29.out; first | omega | exact Nat.le_refl _⟩, ⟨kb BK200.out⟩, ⟨kB1 HB.out GE200.out⟩⟩
    clear HC59
    try clear c58
    obtain ⟨kq, x67_58, rfl, HA, HJ58, BK200, HB⟩ := hcut
    cases kq with
    | zero => exact absurd HA.out (by simp [ipv6_check.j3])
    | succ kj58 =>
     have H := HA.out
     clear HA
     simp only [ipv6_check.j3] at H
     by_cases c67 : x67_58 = true
     ·subst c67
      have H1 : (some 4) = some r := by rw [if_pos rfl] at H; exact H
      clear H
      have H := H1
      clear H1
      obtain rfl := Option.some.inj H
      go_wp2
      go_ret
      exact ⟨kE, by exact kB1 HB.out GE200.out⟩
     replace c67 := Bool.eq_false_iff.mpr c67
     subst c67
     have H1 : (if (l0_10.length : Int) > 8 then (some 9) else (ipv6_check.l0 kj58 l0_10 (l0_10.length : Int) 0)) = some r := by rw [if_neg (show ¬ (false = true) by decide)] at H; exact H
     clear H
     have H := H1
     clear H1
     by_cases c68 : (l0_10.length : Int) > 8
     ·rw [if_pos c68] at H
      have c68b0 : decide (8 < (l0_10.length : Int)) = true := decide_eq_true c68
      have c68b1 : decide (8 < l0_10.length) = true := decide_eq_true (by omega)
      clear c68
      obtain rfl := Option.some.inj H
      have hcz69_0 := cells_16 BK200.out
      have hfz69_0 := fun j_ => blk_frozen BK200.out j_
      go_wp2
      go_ret
      exact ⟨kE, by exact kB1 HB.out GE200.out⟩
     rw [if_neg c68] at H
     have c68b0 : decide (8 < (l0_10.length : Int)) = false := decide_eq_false c68
     have c68b1 : decide (8 < l0_10.length) = false := decide_eq_false (by omega)
     clear c68
     have H' := As H
     clear H
     have hcz70_0 := cells_16 BK200.out
     have hfz70_0 := fun j_ => blk_frozen BK200.out j_
     go_wp2
     go_loopg [93] kj58 (fun kq v93 w' => ∃ (x93_5 : Int), v93 = .int .i64 x93_5 ∧ Aside0 (ipv6_check.l0 kq l0_10 (l0_10.length : Int) x93_5 = some r) ∧ Aside0 (kq ≤ kj58) ∧ Aside0 (w'.heap[gb200]? = some (.cells #[.int .i64 d0, .int .i64 d1, .int .i64 d2, .int .i64 d3, .bool d4, .int .u64 d5, .int .u64 d6, .bool d7, .int .u64 d8, .int .u64 d9, (.slice A0_10 l0_10.length c0_10), .bool d11, .int .i64 d12, .int .i64 d13, .bool d14, .string d15] 28 (0, 0))) ∧ Aside0 (Below w.heap.size w w'))
     case atStart => exact ⟨(0), kS, H', ⟨Nat.le_refl _⟩, ⟨kb BK200.out⟩, ⟨kB1 HB.out GE200.out⟩⟩
     clear H'
     try clear c67
     try clear c68
     try clear c68b0
     try clear c68b1
     try clear hcz70_0
     try clear hfz70_0
     obtain ⟨x93_5, rfl, HA, HK5, BK200, HB⟩ := hrel
     cases gk with
     | zero => exact absurd HA.out (by simp [ipv6_check.l0])
     | succ k5 =>
      have H := HA.out
      clear HA
      simp only [ipv6_check.l0] at H
      by_cases c71 : x93_5 < (l0_10.length : Int)
      ·rw [if_pos c71] at H
       have c71b0 : decide (x93_5 < (l0_10.length : Int)) = true := decide_eq_true c71
       clear c71
       by_cases c72 : 0 ≤ x93_5
       ·rw [if_pos c72] at H
        have c72b0 : decide (0 ≤ x93_5) = true := decide_eq_true c72
        clear c72
        by_cases c73 : x93_5 < (l0_10.length : Int)
        ·rw [if_pos c73] at H
         have c73b0 : decide (x93_5 < (l0_10.length : Int)) = true := decide_eq_true c73
         clear c73
         have HC74 := As H
         clear H
         have p218 : 0 ≤ (x93_5 : Int) := of_decide_eq_true (by first | (with_reducible assumption) | assumption)
         have q218 : x93_5 < (l0_10.length : Int) := of_decide_eq_true (by first | (with_reducible assumption) | assumption)
         obtain ⟨ad218, e218, hx218_0, hx218_1⟩ := at_T60 HR0_10.out x93_5 p218 q218
         cases e218
         replace hx218_0 := hcell HB.out hx218_0
         replace hx218_1 := hcell HB.out hx218_1
         replace p218 := eq_true p218
         replace q218 := eq_true q218
         go_upto_region 15 with (first | ((with_reducible refine gate_dst (N := 4) rfl ?_); (try (refine gate_guard (by rfl) ?_; dsimp only)); refine box_event rfl (N := 4) rfl (cs := #[.int .i64 0, .string (⟨#[]⟩ : ByteArray)]) (t := 60) kG ?_; intro gb219 hg w75 hbox hb; have BK219 := As (hbox); have GW219 := As ((by rw [hg]; exact (below_size (kB1 HB.out GE200.out)) : w.heap.size ≤ gb219)); have GE219 := As ((by rw [hg]; exact (below_size (kB1 HB.out GE200.out)) : w.heap.size ≤ gb219)); replace HB := As (below_step (kB1 HB.out GE200.out) hb); have NB200_219 := As ((by rw [hg]; exact Nat.ne_of_lt (blk_lt (kb BK200.out)) : gb200 ≠ gb219)); have NB219_200 := As ((by rw [hg]; exact Nat.ne_of_gt (blk_lt (kb BK200.out)) : gb219 ≠ gb200)); replace BK200 := As (blk_below (kb BK200.out) hb); clear hb hbox hg; have hnb76 := NB219_200.out; have hnc76 := NB200_219.out; have hcz77_0 := cells_2 BK219.out; have hfz77_0 := fun j_ => blk_frozen BK219.out j_))
         (try simp only [Act.put, sA, sZ, sS])
         go_cut [126] (fun v126 wc => ∃ (kq : Nat) (x126_73 : Bool), v126 = .bool x126_73 ∧ Aside0 (ipv6_check.j5 kq l0_10 (l0_10.length : Int) x93_5 x126_73 = some r) ∧ Aside0 (kq ≤ k5) ∧ Aside0 (wc.heap[gb200]? = some (.cells #[.int .i64 d0, .int .i64 d1, .int .i64 d2, .int .i64 d3, .bool d4, .int .u64 d5, .int .u64 d6, .bool d7, .int .u64 d8, .int .u64 d9, (.slice (some ad218) l0_10.length c0_10), .bool d11, .int .i64 d12, .int .i64 d13, .bool d14, .string d15] 28 (0, 0))) ∧ Aside0 (wc.heap[gb219]? = some (.cells #[.int .i64 ((rd_T60 l0_10 x93_5).f0), .string ((rd_T60 l0_10 x93_5).f1)] 60 (0, 0))) ∧ Aside0 (Below w.heap.size w wc))
         case first =>
          have H := HC74.out
          clear HC74
          replace H := Option.bind_eq_some_iff.mp H
          obtain ⟨t220, A780, H⟩ := H
          replace H : (if t220 = true then (if ((rd_T60 l0_10 x93_5).f0) = 0 then (if x93_5 > 0 then (ipv6_check.j5 k5 l0_10 (l0_10.length : Int) x93_5 true) else (if (((rd_T60 l0_10 x93_5).f1).size : Int) < 6 then (ipv6_check.j5 k5 l0_10 (l0_10.length : Int) x93_5 true) else (if (((rd_T60 l0_10 x93_5).f1).size : Int) > 2046 then (ipv6_check.j5 k5 l0_10 (l0_10.length : Int) x93_5 true) else (ipv6_check.j5 k5 l0_10 (l0_10.length : Int) x93_5 (((((rd_T60 l0_10 x93_5).f1).size : Int) % 8) != 6))))) else (if (((rd_T60 l0_10 x93_5).f1).size : Int) < 6 then (ipv6_check.j5 k5 l0_10 (l0_10.length : Int) x93_5 true) else (if (((rd_T60 l0_10 x93_5).f1).size : Int) > 2046 then (ipv6_check.j5 k5 l0_10 (l0_10.length : Int) x93_5 true) else (ipv6_check.j5 k5 l0_10 (l0_10.length : Int) x93_5 (((((rd_T60 l0_10 x93_5).f1).size : Int) % 8) != 6))))) else (ipv6_check.j5 k5 l0_10 (l0_10.length : Int) x93_5 true)) = some r := H
          have A78 := As A780
          clear A780
          by_cases c79 : t220 = true
          ·subst c79
           have H1 : (if ((rd_T60 l0_10 x93_5).f0) = 0 then (if x93_5 > 0 then (ipv6_check.j5 k5 l0_10 (l0_10.length : Int) x93_5 true) else (if (((rd_T60 l0_10 x93_5).f1).size : Int) < 6 then (ipv6_check.j5 k5 l0_10 (l0_10.length : Int) x93_5 true) else (if (((rd_T60 l0_10 x93_5).f1).size : Int) > 2046 then (ipv6_check.j5 k5 l0_10 (l0_10.length : Int) x93_5 true) else (ipv6_check.j5 k5 l0_10 (l0_10.length : Int) x93_5 (((((rd_T60 l0_10 x93_5).f1).size : Int) % 8) != 6))))) else (if (((rd_T60 l0_10 x93_5).f1).size : Int) < 6 then (ipv6_check.j5 k5 l0_10 (l0_10.length : Int) x93_5 true) else (if (((rd_T60 l0_10 x93_5).f1).size : Int) > 2046 then (ipv6_check.j5 k5 l0_10 (l0_10.length : Int) x93_5 true) else (ipv6_check.j5 k5 l0_10 (l0_10.length : Int) x93_5 (((((rd_T60 l0_10 x93_5).f1).size : Int) % 8) != 6))))) = some r := by rw [if_pos rfl] at H; exact H
           clear H
           have H := H1
           clear H1
           by_cases c80 : ((rd_T60 l0_10 x93_5).f0) = 0
           ·rw [if_pos c80] at H
            have c80b0 : (((rd_T60 l0_10 x93_5).f0) == 0) = true := beq_iff_eq.mpr c80
            have c80b1 : (((rd_T60 l0_10 x93_5).f0) != 0) = false := bne_eq_false_iff_eq.mpr c80
            clear c80
            (first | rw [c80b0] | (simp only [i64_w, i32_w]; rw [c80b0]) | skip)
            by_cases c81 : x93_5 > 0
            ·rw [if_pos c81] at H
             have c81b0 : decide (0 < x93_5) = true := decide_eq_true c81
             clear c81
             have H' := As H
             clear H
             have hnb82 := NB219_200.out
             have hnc82 := NB200_219.out
             have hcz83_0 := cells_2 BK219.out
             have hfz83_0 := fun j_ => blk_frozen BK219.out j_
             go_wp2_with (first | ((with_reducible refine gate_callee (f := 45) rfl ?_); refine goesL_ (some 103) rfl rfl Try.func45 (by kernel_rfl) rfl #[.int .i64 ((rd_T60 l0_10 x93_5).f0)] rfl kA ?_; (with_reducible refine (ipv6_extension.calls ((rd_T60 l0_10 x93_5).f0) true _ A78.out).mono ?_); rintro e w' ⟨rfl, ⟨nd, rfl⟩⟩; refine ⟨_, rfl, ?_⟩))
             go_meet
             case rel => exact ⟨_, (true), kS, H', ⟨by have := HJ1.out; have := HJ19.out; have := HJ29.out; have := HJ58.out; have := HK5.out; first | omega | exact Nat.le_refl _⟩, ⟨by refine kb ?_; refine blk_far ?_ NB200_219.out _; refine kb ?_; refine blk_far ?_ NB200_219.out _; exact kb BK200.out⟩, ⟨by refine kb ?_; refine blk_put (cs := #[.int .i64 ((rd_T60 l0_10 x93_5).f0), .string (⟨#[]⟩ : ByteArray)]) ?_ 1 _ rfl; refine kb ?_; refine blk_put (cs := #[.int .i64 0, .string (⟨#[]⟩ : ByteArray)]) ?_ 0 _ rfl; exact kb BK219.out⟩, ⟨kB2 HB.out GE200.out GE219.out⟩⟩
            rw [if_neg c81] at H
            have c81b0 : decide (0 < x93_5) = false := decide_eq_false c81
            clear c81
            by_cases c84 : (((rd_T60 l0_10 x93_5).f1).size : Int) < 6
            ·rw [if_pos c84] at H
             have c84b0 : decide ((((rd_T60 l0_10 x93_5).f1).size : Int) < 6) = true := decide_eq_true c84
             have c84b1 : decide (((rd_T60 l0_10 x93_5).f1).size < 6) = true := decide_eq_true (by omega)
             clear c84
             have H' := As H
             clear H
             have hnb85 := NB219_200.out
             have hnc85 := NB200_219.out
             have hcz86_0 := cells_2 BK219.out
             have hfz86_0 := fun j_ => blk_frozen BK219.out j_
             go_wp2_with (first | ((with_reducible refine gate_callee (f := 45) rfl ?_); refine goesL_ (some 103) rfl rfl Try.func45 (by kernel_rfl) rfl #[.int .i64 ((rd_T60 l0_10 x93_5).f0)] rfl kA ?_; (with_reducible refine (ipv6_extension.calls ((rd_T60 l0_10 x93_5).f0) true _ A78.out).mono ?_); rintro e w' ⟨rfl, ⟨nd, rfl⟩⟩; refine ⟨_, rfl, ?_⟩))
             go_meet
             case rel => exact ⟨_, (true), kS, H', ⟨by have := HJ1.out; have := HJ19.out; have := HJ29.out; have := HJ58.out; have := HK5.out; first | omega | exact Nat.le_refl _⟩, ⟨by refine kb ?_; refine blk_far ?_ NB200_219.out _; refine kb ?_; refine blk_far ?_ NB200_219.out _; exact kb BK200.out⟩, ⟨by refine kb ?_; refine blk_put (cs := #[.int .i64 ((rd_T60 l0_10 x93_5).f0), .string (⟨#[]⟩ : ByteArray)]) ?_ 1 _ rfl; refine kb ?_; refine blk_put (cs := #[.int .i64 0, .string (⟨#[]⟩ : ByteArray)]) ?_ 0 _ rfl; exact kb BK219.out⟩, ⟨kB2 HB.out GE200.out GE219.out⟩⟩
            rw [if_neg c84] at H
            have c84b0 : decide ((((rd_T60 l0_10 x93_5).f1).size : Int) < 6) = false := decide_eq_false c84
            have c84b1 : decide (((rd_T60 l0_10 x93_5).f1).size < 6) = false := decide_eq_false (by omega)
            clear c84
            by_cases c87 : (((rd_T60 l0_10 x93_5).f1).size : Int) > 2046
            ·rw [if_pos c87] at H
             have c87b0 : decide (2046 < (((rd_T60 l0_10 x93_5).f1).size : Int)) = true := decide_eq_true c87
             have c87b1 : decide (2046 < ((rd_T60 l0_10 x93_5).f1).size) = true := decide_eq_true (by omega)
             clear c87
             have H' := As H
             clear H
             have hnb88 := NB219_200.out
             have hnc88 := NB200_219.out
             have hcz89_0 := cells_2 BK219.out
             have hfz89_0 := fun j_ => blk_frozen BK219.out j_
             go_wp2_with (first | ((with_reducible refine gate_callee (f := 45) rfl ?_); refine goesL_ (some 103) rfl rfl Try.func45 (by kernel_rfl) rfl #[.int .i64 ((rd_T60 l0_10 x93_5).f0)] rfl kA ?_; (with_reducible refine (ipv6_extension.calls ((rd_T60 l0_10 x93_5).f0) true _ A78.out).mono ?_); rintro e w' ⟨rfl, ⟨nd, rfl⟩⟩; refine ⟨_, rfl, ?_⟩))
             go_meet
             case rel => exact ⟨_, (true), kS, H', ⟨by have := HJ1.out; have := HJ19.out; have := HJ29.out; have := HJ58.out; have := HK5.out; first | omega | exact Nat.le_refl _⟩, ⟨by refine kb ?_; refine blk_far ?_ NB200_219.out _; refine kb ?_; refine blk_far ?_ NB200_219.out _; exact kb BK200.out⟩, ⟨by refine kb ?_; refine blk_put (cs := #[.int .i64 ((rd_T60 l0_10 x93_5).f0), .string (⟨#[]⟩ : ByteArray)]) ?_ 1 _ rfl; refine kb ?_; refine blk_put (cs := #[.int .i64 0, .string (⟨#[]⟩ : ByteArray)]) ?_ 0 _ rfl; exact kb BK219.out⟩, ⟨kB2 HB.out GE200.out GE219.out⟩⟩
            rw [if_neg c87] at H
            have c87b0 : decide (2046 < (((rd_T60 l0_10 x93_5).f1).size : Int)) = false := decide_eq_false c87
            have c87b1 : decide (2046 < ((rd_T60 l0_10 x93_5).f1).size) = false := decide_eq_false (by omega)
            clear c87
            have H' := As H
            clear H
            have hnb90 := NB219_200.out
            have hnc90 := NB200_219.out
            have hcz91_0 := cells_2 BK219.out
            have hfz91_0 := fun j_ => blk_frozen BK219.out j_
            go_wp2_with (first | ((with_reducible refine gate_callee (f := 45) rfl ?_); refine goesL_ (some 103) rfl rfl Try.func45 (by kernel_rfl) rfl #[.int .i64 ((rd_T60 l0_10 x93_5).f0)] rfl kA ?_; (with_reducible refine (ipv6_extension.calls ((rd_T60 l0_10 x93_5).f0) true _ A78.out).mono ?_); rintro e w' ⟨rfl, ⟨nd, rfl⟩⟩; refine ⟨_, rfl, ?_⟩))
            go_meet
            case rel => exact ⟨_, ((((((rd_T60 l0_10 x93_5).f1).size : Int) % 8) != 6)), kS, H', ⟨by have := HJ1.out; have := HJ19.out; have := HJ29.out; have := HJ58.out; have := HK5.out; first | omega | exact Nat.le_refl _⟩, ⟨by refine kb ?_; refine blk_far ?_ NB200_219.out _; refine kb ?_; refine blk_far ?_ NB200_219.out _; exact kb BK200.out⟩, ⟨by refine kb ?_; refine blk_put (cs := #[.int .i64 ((rd_T60 l0_10 x93_5).f0), .string (⟨#[]⟩ : ByteArray)]) ?_ 1 _ rfl; refine kb ?_; refine blk_put (cs := #[.int .i64 0, .string (⟨#[]⟩ : ByteArray)]) ?_ 0 _ rfl; exact kb BK219.out⟩, ⟨kB2 HB.out GE200.out GE219.out⟩⟩
           rw [if_neg c80] at H
           have c80b0 : (((rd_T60 l0_10 x93_5).f0) == 0) = false := beq_eq_false_iff_ne.mpr c80
           have c80b1 : (((rd_T60 l0_10 x93_5).f0) != 0) = true := bne_iff_ne.mpr c80
           (first | rw [c80b0] | (simp only [i64_w, i32_w]; rw [c80b0]) | skip)
           by_cases c92 : (((rd_T60 l0_10 x93_5).f1).size : Int) < 6
           ·rw [if_pos c92] at H
            have c92b0 : decide ((((rd_T60 l0_10 x93_5).f1).size : Int) < 6) = true := decide_eq_true c92
            have c92b1 : decide (((rd_T60 l0_10 x93_5).f1).size < 6) = true := decide_eq_true (by omega)
            clear c92
            have H' := As H
            clear H
            have hnb93 := NB219_200.out
            have hnc93 := NB200_219.out
            have hcz94_0 := cells_2 BK219.out
            have hfz94_0 := fun j_ => blk_frozen BK219.out j_
            go_wp2_with (first | ((with_reducible refine gate_callee (f := 45) rfl ?_); refine goesL_ (some 103) rfl rfl Try.func45 (by kernel_rfl) rfl #[.int .i64 ((rd_T60 l0_10 x93_5).f0)] rfl kA ?_; (with_reducible refine (ipv6_extension.calls ((rd_T60 l0_10 x93_5).f0) true _ A78.out).mono ?_); rintro e w' ⟨rfl, ⟨nd, rfl⟩⟩; refine ⟨_, rfl, ?_⟩))
            go_meet
            case rel => exact ⟨_, (true), kS, H', ⟨by have := HJ1.out; have := HJ19.out; have := HJ29.out; have := HJ58.out; have := HK5.out; first | omega | exact Nat.le_refl _⟩, ⟨by refine kb ?_; refine blk_far ?_ NB200_219.out _; refine kb ?_; refine blk_far ?_ NB200_219.out _; exact kb BK200.out⟩, ⟨by refine kb ?_; refine blk_put (cs := #[.int .i64 ((rd_T60 l0_10 x93_5).f0), .string (⟨#[]⟩ : ByteArray)]) ?_ 1 _ rfl; refine kb ?_; refine blk_put (cs := #[.int .i64 0, .string (⟨#[]⟩ : ByteArray)]) ?_ 0 _ rfl; exact kb BK219.out⟩, ⟨kB2 HB.out GE200.out GE219.out⟩⟩
           rw [if_neg c92] at H
           have c92b0 : decide ((((rd_T60 l0_10 x93_5).f1).size : Int) < 6) = false := decide_eq_false c92
           have c92b1 : decide (((rd_T60 l0_10 x93_5).f1).size < 6) = false := decide_eq_false (by omega)
           clear c92
           by_cases c95 : (((rd_T60 l0_10 x93_5).f1).size : Int) > 2046
           ·rw [if_pos c95] at H
            have c95b0 : decide (2046 < (((rd_T60 l0_10 x93_5).f1).size : Int)) = true := decide_eq_true c95
            have c95b1 : decide (2046 < ((rd_T60 l0_10 x93_5).f1).size) = true := decide_eq_true (by omega)
            clear c95
            have H' := As H
            clear H
            have hnb96 := NB219_200.out
            have hnc96 := NB200_219.out
            have hcz97_0 := cells_2 BK219.out
            have hfz97_0 := fun j_ => blk_frozen BK219.out j_
            go_wp2_with (first | ((with_reducible refine gate_callee (f := 45) rfl ?_); refine goesL_ (some 103) rfl rfl Try.func45 (by kernel_rfl) rfl #[.int .i64 ((rd_T60 l0_10 x93_5).f0)] rfl kA ?_; (with_reducible refine (ipv6_extension.calls ((rd_T60 l0_10 x93_5).f0) true _ A78.out).mono ?_); rintro e w' ⟨rfl, ⟨nd, rfl⟩⟩; refine ⟨_, rfl, ?_⟩))
            go_meet
            case rel => exact ⟨_, (true), kS, H', ⟨by have := HJ1.out; have := HJ19.out; have := HJ29.out; have := HJ58.out; have := HK5.out; first | omega | exact Nat.le_refl _⟩, ⟨by refine kb ?_; refine blk_far ?_ NB200_219.out _; refine kb ?_; refine blk_far ?_ NB200_219.out _; exact kb BK200.out⟩, ⟨by refine kb ?_; refine blk_put (cs := #[.int .i64 ((rd_T60 l0_10 x93_5).f0), .string (⟨#[]⟩ : ByteArray)]) ?_ 1 _ rfl; refine kb ?_; refine blk_put (cs := #[.int .i64 0, .string (⟨#[]⟩ : ByteArray)]) ?_ 0 _ rfl; exact kb BK219.out⟩, ⟨kB2 HB.out GE200.out GE219.out⟩⟩
           rw [if_neg c95] at H
           have c95b0 : decide (2046 < (((rd_T60 l0_10 x93_5).f1).size : Int)) = false := decide_eq_false c95
           have c95b1 : decide (2046 < ((rd_T60 l0_10 x93_5).f1).size) = false := decide_eq_false (by omega)
           clear c95
           have H' := As H
           clear H
           have hnb98 := NB219_200.out
           have hnc98 := NB200_219.out
           have hcz99_0 := cells_2 BK219.out
           have hfz99_0 := fun j_ => blk_frozen BK219.out j_
           go_wp2_with (first | ((with_reducible refine gate_callee (f := 45) rfl ?_); refine goesL_ (some 103) rfl rfl Try.func45 (by kernel_rfl) rfl #[.int .i64 ((rd_T60 l0_10 x93_5).f0)] rfl kA ?_; (with_reducible refine (ipv6_extension.calls ((rd_T60 l0_10 x93_5).f0) true _ A78.out).mono ?_); rintro e w' ⟨rfl, ⟨nd, rfl⟩⟩; refine ⟨_, rfl, ?_⟩))
           go_meet
           case rel => exact ⟨_, ((((((rd_T60 l0_10 x93_5).f1).size : Int) % 8) != 6)), kS, H', ⟨by have := HJ1.out; have := HJ19.out; have := HJ29.out; have := HJ58.out; have := HK5.out; first | omega | exact Nat.le_refl _⟩, ⟨by refine kb ?_; refine blk_far ?_ NB200_219.out _; refine kb ?_; refine blk_far ?_ NB200_219.out _; exact kb BK200.out⟩, ⟨by refine kb ?_; refine blk_put (cs := #[.int .i64 ((rd_T60 l0_10 x93_5).f0), .string (⟨#[]⟩ : ByteArray)]) ?_ 1 _ rfl; refine kb ?_; refine blk_put (cs := #[.int .i64 0, .string (⟨#[]⟩ : ByteArray)]) ?_ 0 _ rfl; exact kb BK219.out⟩, ⟨kB2 HB.out GE200.out GE219.out⟩⟩
          replace c79 := Bool.eq_false_iff.mpr c79
          subst c79
          have H1 : (ipv6_check.j5 k5 l0_10 (l0_10.length : Int) x93_5 true) = some r := by rw [if_neg (show ¬ (false = true) by decide)] at H; exact H
          clear H
          have H := H1
          clear H1
          have H' := As H
          clear H
          have hnb100 := NB219_200.out
          have hnc100 := NB200_219.out
          have hcz101_0 := cells_2 BK219.out
          have hfz101_0 := fun j_ => blk_frozen BK219.out j_
          go_wp2_with (first | ((with_reducible refine gate_callee (f := 45) rfl ?_); refine goesL_ (some 103) rfl rfl Try.func45 (by kernel_rfl) rfl #[.int .i64 ((rd_T60 l0_10 x93_5).f0)] rfl kA ?_; (with_reducible refine (ipv6_extension.calls ((rd_T60 l0_10 x93_5).f0) false _ A78.out).mono ?_); rintro e w' ⟨rfl, ⟨nd, rfl⟩⟩; refine ⟨_, rfl, ?_⟩))
          go_meet
          case rel => exact ⟨_, (true), kS, H', ⟨by have := HJ1.out; have := HJ19.out; have := HJ29.out; have := HJ58.out; have := HK5.out; first | omega | exact Nat.le_refl _⟩, ⟨by refine kb ?_; refine blk_far ?_ NB200_219.out _; refine kb ?_; refine blk_far ?_ NB200_219.out _; exact kb BK200.out⟩, ⟨by refine kb ?_; refine blk_put (cs := #[.int .i64 ((rd_T60 l0_10 x93_5).f0), .string (⟨#[]⟩ : ByteArray)]) ?_ 1 _ rfl; refine kb ?_; refine blk_put (cs := #[.int .i64 0, .string (⟨#[]⟩ : ByteArray)]) ?_ 0 _ rfl; exact kb BK219.out⟩, ⟨kB2 HB.out GE200.out GE219.out⟩⟩
         clear HC74
         try clear c71
         try clear c71b0
         try clear c72
         try clear c72b0
         try clear c73
         try clear c73b0
         try clear hcz77_0
         try clear hfz77_0
         try clear hx218_0
         try clear hx218_1
         try clear p218
         try clear q218
         obtain ⟨kq, x126_73, rfl, HA, HJ73, BK200, BK219, HB⟩ := hcut
         cases kq with
         | zero => exact absurd HA.out (by simp [ipv6_check.j5])
         | succ kj73 =>
          have H := HA.out
          clear HA
          simp only [ipv6_check.j5] at H
          by_cases c102 : x126_73 = true
          ·subst c102
           have H1 : (some 2) = some r := by rw [if_pos rfl] at H; exact H
           clear H
           have H := H1
           clear H1
           obtain rfl := Option.some.inj H
           go_wp2
           go_ret
           exact ⟨kE, by exact kB2 HB.out GE200.out GE219.out⟩
          replace c102 := Bool.eq_false_iff.mpr c102
          subst c102
          have H1 : (ipv6_check.l0 kj73 l0_10 (l0_10.length : Int) (wrap64 (x93_5 + 1))) = some r := by rw [if_neg (show ¬ (false = true) by decide)] at H; exact H
          clear H
          have H := H1
          clear H1
          have H' := As H
          clear H
          go_wp2
          go_roundg kj73
          case measure => have := HJ1.out; have := HJ19.out; have := HJ29.out; have := HJ58.out; have := HK5.out; have := HJ73.out; omega
          case rel => exact ⟨(wrap64 (x93_5 + 1)), kS, H', ⟨by have := HJ1.out; have := HJ19.out; have := HJ29.out; have := HJ58.out; have := HK5.out; have := HJ73.out; omega⟩, ⟨kb BK200.out⟩, ⟨kB2 HB.out GE200.out GE219.out⟩⟩
        rw [if_neg c73] at H
        exact absurd H (by simp)
       rw [if_neg c72] at H
       exact absurd H (by simp)
      rw [if_neg c71] at H
      have c71b0 : decide (x93_5 < (l0_10.length : Int)) = false := decide_eq_false c71
      clear c71
      obtain rfl := Option.some.inj H
      go_wp2
      go_ret
      exact ⟨kE, by exact kB1 HB.out GE200.out⟩

end Go.Proofs.Ytljboandbjahdaa.X
-- short
