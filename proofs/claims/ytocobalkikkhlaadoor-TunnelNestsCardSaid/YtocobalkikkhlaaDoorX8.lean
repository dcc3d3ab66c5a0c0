/- Functions and their walks, printed by xprint.py. -/
import Derived.Test.YtocobalkikkhlaaDoorX0
import Derived.Test.YtocobalkikkhlaaDoorX7
namespace Go.Proofs.YtocobalkikkhlaaDoor.X
open Go.RowKit Go.Proofs.YtocobalkikkhlaaDoorW.PrintWords Go.Proofs.YtocobalkikkhlaaDoorW.PrintLast Go.Proofs.YtocobalkikkhlaaDoorW.PrintMore
attribute [local go_sem] max2_int min2_int max_two min_two max_three min_three max_four min_four   -- for this text's walks alone
set_option linter.unusedVariables false
set_option linter.unusedSimpArgs false

/-! ### ipv6_check: function 59 -/
mutual
def ipv6_check.j0 : Nat → Bool → Int → Int → Int → Int → Bool → Int → Int → Bool → Int → Int → List (S91) → Bool → Int → Int → Bool → ByteArray → Option (Int)
 | 0, _, _, _, _, _, _, _, _, _, _, _, _, _, _, _, _, _ => none
 | k + 1, x6, b0, b1, b2, b3, b4, b5, b6, b7, b8, b9, b10, b11, b12, b13, b14, b15 => if x6 = true then (some 4) else ((ipv6_extension.f b3).bind fun t253 => (if t253 = true then (ipv6_check.j1 k true b0 b1 b2 b3 b4 b5 b6 b7 b8 b9 b10 b11 b12 b13 b14 b15) else (if b3 = 44 then (ipv6_check.j1 k true b0 b1 b2 b3 b4 b5 b6 b7 b8 b9 b10 b11 b12 b13 b14 b15) else (if b4 = true then (ipv6_check.j1 k (!b7) b0 b1 b2 b3 b4 b5 b6 b7 b8 b9 b10 b11 b12 b13 b14 b15) else (ipv6_check.j1 k true b0 b1 b2 b3 b4 b5 b6 b7 b8 b9 b10 b11 b12 b13 b14 b15)))))
def ipv6_check.j1 : Nat → Bool → Int → Int → Int → Int → Bool → Int → Int → Bool → Int → Int → List (S91) → Bool → Int → Int → Bool → ByteArray → Option (Int)
 | 0, _, _, _, _, _, _, _, _, _, _, _, _, _, _, _, _, _ => none
 | k + 1, x23, b0, b1, b2, b3, b4, b5, b6, b7, b8, b9, b10, b11, b12, b13, b14, b15 => if x23 = true then (some 4) else (if b11 = true then ((ipv6_within.f k 4294967295 (([b12] : List Int))).bind fun t257 => (if t257 = true then ((ipv6_within.f k 65528 (([b13] : List Int))).bind fun t261 => (if t261 = true then (ipv6_check.j2 k ((Int.tmod b13 8) != 0) b0 b1 b2 b3 b4 b5 b6 b7 b8 b9 b10 b11 b12 b13 b14 b15) else (ipv6_check.j2 k true b0 b1 b2 b3 b4 b5 b6 b7 b8 b9 b10 b11 b12 b13 b14 b15))) else (ipv6_check.j2 k true b0 b1 b2 b3 b4 b5 b6 b7 b8 b9 b10 b11 b12 b13 b14 b15))) else (ipv6_check.j2 k false b0 b1 b2 b3 b4 b5 b6 b7 b8 b9 b10 b11 b12 b13 b14 b15))
def ipv6_check.j2 : Nat → Bool → Int → Int → Int → Int → Bool → Int → Int → Bool → Int → Int → List (S91) → Bool → Int → Int → Bool → ByteArray → Option (Int)
 | 0, _, _, _, _, _, _, _, _, _, _, _, _, _, _, _, _, _ => none
 | k + 1, x44, b0, b1, b2, b3, b4, b5, b6, b7, b8, b9, b10, b11, b12, b13, b14, b15 => if x44 = true then (some 4) else (if b11 = true then (ipv6_check.j3 k false b0 b1 b2 b3 b4 b5 b6 b7 b8 b9 b10 b11 b12 b13 b14 b15) else (if b12 = 0 then (if b13 = 0 then (ipv6_check.j3 k b14 b0 b1 b2 b3 b4 b5 b6 b7 b8 b9 b10 b11 b12 b13 b14 b15) else (ipv6_check.j3 k true b0 b1 b2 b3 b4 b5 b6 b7 b8 b9 b10 b11 b12 b13 b14 b15)) else (ipv6_check.j3 k true b0 b1 b2 b3 b4 b5 b6 b7 b8 b9 b10 b11 b12 b13 b14 b15)))
def ipv6_check.j3 : Nat → Bool → Int → Int → Int → Int → Bool → Int → Int → Bool → Int → Int → List (S91) → Bool → Int → Int → Bool → ByteArray → Option (Int)
 | 0, _, _, _, _, _, _, _, _, _, _, _, _, _, _, _, _, _ => none
 | k + 1, x67, b0, b1, b2, b3, b4, b5, b6, b7, b8, b9, b10, b11, b12, b13, b14, b15 => if x67 = true then (some 4) else (if (b10.length : Int) > 8 then (some 9) else (ipv6_check.l0 k b10 (b10.length : Int) 0))
def ipv6_check.l0 : Nat → List (S91) → Int → Int → Option (Int)
 | 0, _, _, _ => none
 | k + 1, x91, x92, x93 => if x93 < x92 then (if 0 ≤ x93 then (if x93 < (x91.length : Int) then ((ipv6_extension.f ((rd_T91 x91 x93).f0)).bind fun t264 => (if t264 = true then (if ((rd_T91 x91 x93).f0) = 0 then (if x93 > 0 then (some 2) else (if (((rd_T91 x91 x93).f1).size : Int) < 6 then (some 2) else (if (((rd_T91 x91 x93).f1).size : Int) > 2046 then (some 2) else (if ((((rd_T91 x91 x93).f1).size : Int) % 8) = 6 then (ipv6_check.l0 k x91 x92 (wrap64 (x93 + 1))) else (some 2))))) else (if (((rd_T91 x91 x93).f1).size : Int) < 6 then (some 2) else (if (((rd_T91 x91 x93).f1).size : Int) > 2046 then (some 2) else (if ((((rd_T91 x91 x93).f1).size : Int) % 8) = 6 then (ipv6_check.l0 k x91 x92 (wrap64 (x93 + 1))) else (some 2))))) else (some 2))) else (none)) else (none)) else (some 0)
end
def ipv6_check.f (k : Nat) (d0 : Int) (d1 : Int) (d2 : Int) (d3 : Int) (d4 : Bool) (d5 : Int) (d6 : Int) (d7 : Bool) (d8 : Int) (d9 : Int) (l0_10 : List (S91)) (d11 : Bool) (d12 : Int) (d13 : Int) (d14 : Bool) (d15 : ByteArray) : Option (Int) := (ipv6_within.f k 255 (([d0, d2, d3] : List Int))).bind fun t248 => (if t248 = true then ((ipv6_within.f k 1048575 (([d1] : List Int))).bind fun t252 => (ipv6_check.j0 k (!t252) d0 d1 d2 d3 d4 d5 d6 d7 d8 d9 l0_10 d11 d12 d13 d14 d15)) else (ipv6_check.j0 k true d0 d1 d2 d3 d4 d5 d6 d7 d8 d9 l0_10 d11 d12 d13 d14 d15))
theorem ipv6_check.mono_l : ∀ k, (∀ y0 y1 y2 y3 y4 y5 y6 y7 y8 y9 y10 y11 y12 y13 y14 y15 y16, LeO (ipv6_check.j0 k y0 y1 y2 y3 y4 y5 y6 y7 y8 y9 y10 y11 y12 y13 y14 y15 y16) (ipv6_check.j0 (k + 1) y0 y1 y2 y3 y4 y5 y6 y7 y8 y9 y10 y11 y12 y13 y14 y15 y16)) ∧ (∀ y0 y1 y2 y3 y4 y5 y6 y7 y8 y9 y10 y11 y12 y13 y14 y15 y16, LeO (ipv6_check.j1 k y0 y1 y2 y3 y4 y5 y6 y7 y8 y9 y10 y11 y12 y13 y14 y15 y16) (ipv6_check.j1 (k + 1) y0 y1 y2 y3 y4 y5 y6 y7 y8 y9 y10 y11 y12 y13 y14 y15 y16)) ∧ (∀ y0 y1 y2 y3 y4 y5 y6 y7 y8 y9 y10 y11 y12 y13 y14 y15 y16, LeO (ipv6_check.j2 k y0 y1 y2 y3 y4 y5 y6 y7 y8 y9 y10 y11 y12 y13 y14 y15 y16) (ipv6_check.j2 (k + 1) y0 y1 y2 y3 y4 y5 y6 y7 y8 y9 y10 y11 y12 y13 y14 y15 y16)) ∧ (∀ y0 y1 y2 y3 y4 y5 y6 y7 y8 y9 y10 y11 y12 y13 y14 y15 y16, LeO (ipv6_check.j3 k y0 y1 y2 y3 y4 y5 y6 y7 y8 y9 y10 y11 y12 y13 y14 y15 y16) (ipv6_check.j3 (k + 1) y0 y1 y2 y3 y4 y5 y6 y7 y8 y9 y10 y11 y12 y13 y14 y15 y16)) ∧ (∀ y0 y1 y2, LeO (ipv6_check.l0 k y0 y1 y2) (ipv6_check.l0 (k + 1) y0 y1 y2))
 | 0 => ⟨fun _ _ _ _ _ _ _ _ _ _ _ _ _ _ _ _ _ r h => by simp [ipv6_check.j0] at h, fun _ _ _ _ _ _ _ _ _ _ _ _ _ _ _ _ _ r h => by simp [ipv6_check.j1] at h, fun _ _ _ _ _ _ _ _ _ _ _ _ _ _ _ _ _ r h => by simp [ipv6_check.j2] at h, fun _ _ _ _ _ _ _ _ _ _ _ _ _ _ _ _ _ r h => by simp [ipv6_check.j3] at h, fun _ _ _ r h => by simp [ipv6_check.l0] at h⟩
 | k + 1 => by
  obtain ⟨ih0, ih1, ih2, ih3, ih4⟩ := ipv6_check.mono_l k
  refine ⟨?_, ?_, ?_, ?_, ?_⟩
  ·intro y0 y1 y2 y3 y4 y5 y6 y7 y8 y9 y10 y11 y12 y13 y14 y15 y16
   unfold ipv6_check.j0
   repeat' first | with_reducible first | apply ih0 | apply ih1 | apply ih2 | apply ih3 | apply ih4 | apply ipv6_within.mono | apply LeO.refl | apply LeO.none | refine LeO.ite ?_ ?_ | refine LeO.bind ?_ (fun _ => ?_)
  ·intro y0 y1 y2 y3 y4 y5 y6 y7 y8 y9 y10 y11 y12 y13 y14 y15 y16
   unfold ipv6_check.j1
   repeat' first | with_reducible first | apply ih0 | apply ih1 | apply ih2 | apply ih3 | apply ih4 | apply ipv6_within.mono | apply LeO.refl | apply LeO.none | refine LeO.ite ?_ ?_ | refine LeO.bind ?_ (fun _ => ?_)
  ·intro y0 y1 y2 y3 y4 y5 y6 y7 y8 y9 y10 y11 y12 y13 y14 y15 y16
   unfold ipv6_check.j2
   repeat' first | with_reducible first | apply ih0 | apply ih1 | apply ih2 | apply ih3 | apply ih4 | apply ipv6_within.mono | apply LeO.refl | apply LeO.none | refine LeO.ite ?_ ?_ | refine LeO.bind ?_ (fun _ => ?_)
  ·intro y0 y1 y2 y3 y4 y5 y6 y7 y8 y9 y10 y11 y12 y13 y14 y15 y16
   unfold ipv6_check.j3
   repeat' first | with_reducible first | apply ih0 | apply ih1 | apply ih2 | apply ih3 | apply ih4 | apply ipv6_within.mono | apply LeO.refl | apply LeO.none | refine LeO.ite ?_ ?_ | refine LeO.bind ?_ (fun _ => ?_)
  intro y0 y1 y2
  unfold ipv6_check.l0
  repeat' first | with_reducible first | apply ih0 | apply ih1 | apply ih2 | apply ih3 | apply ih4 | apply ipv6_within.mono | apply LeO.refl | apply LeO.none | refine LeO.ite ?_ ?_ | refine LeO.bind ?_ (fun _ => ?_)
theorem ipv6_check.mono : ∀ a0 a1 a2 a3 a4 a5 a6 a7 a8 a9 a10 a11 a12 a13 a14 a15 k, LeO (ipv6_check.f k a0 a1 a2 a3 a4 a5 a6 a7 a8 a9 a10 a11 a12 a13 a14 a15) (ipv6_check.f (k + 1) a0 a1 a2 a3 a4 a5 a6 a7 a8 a9 a10 a11 a12 a13 a14 a15) := by
 intro a0 a1 a2 a3 a4 a5 a6 a7 a8 a9 a10 a11 a12 a13 a14 a15 k
 obtain ⟨ih0, ih1, ih2, ih3, ih4⟩ := ipv6_check.mono_l k
 unfold ipv6_check.f
 repeat' first | with_reducible first | apply ih0 | apply ih1 | apply ih2 | apply ih3 | apply ih4 | apply ipv6_within.mono | apply LeO.refl | apply LeO.none | refine LeO.ite ?_ ?_ | refine LeO.bind ?_ (fun _ => ?_)
set_option maxHeartbeats 8000000 in
set_option maxRecDepth 100000 in
theorem ipv6_check.calls (k : Nat) (d0 : Int) (d1 : Int) (d2 : Int) (d3 : Int) (d4 : Bool) (d5 : Int) (d6 : Int) (d7 : Bool) (d8 : Int) (d9 : Int) (A0_10 : Option Addr) (c0_10 : Nat) (l0_10 : List (S91)) (d11 : Bool) (d12 : Int) (d13 : Int) (d14 : Bool) (d15 : ByteArray) (r : Int) (w : World) (hr0_10 : Kd.C k91 w A0_10 l0_10.length l0_10) (hc0_10 : l0_10.length ≤ c0_10) (h : ipv6_check.f k d0 d1 d2 d3 d4 d5 d6 d7 d8 d9 l0_10 d11 d12 d13 d14 d15 = some r) :
  Calls Tryd.prog 59 #[.agg #[.int .i64 d0, .int .i64 d1, .int .i64 d2, .int .i64 d3, .bool d4, .int .u64 d5, .int .u64 d6, .bool d7, .int .u64 d8, .int .u64 d9, .slice A0_10 l0_10.length c0_10, .bool d11, .int .i64 d12, .int .i64 d13, .bool d14, .string d15]] w fun e w' => e = .returned (.int .i64 r) ∧ Below w.heap.size w w' := by
 have hu60 := Tryd.underlying60
 have hu91 := Tryd.underlying91
 have HR0_10 := As hr0_10
 have HC0_10 := As hc0_10
 clear hr0_10 hc0_10
 have HB := As (Below.refl w.heap.size w)
 have H : ((ipv6_within.f k 255 (([d0, d2, d3] : List Int))).bind fun t248 => (if t248 = true then ((ipv6_within.f k 1048575 (([d1] : List Int))).bind fun t252 => (ipv6_check.j0 k (!t252) d0 d1 d2 d3 d4 d5 d6 d7 d8 d9 l0_10 d11 d12 d13 d14 d15)) else (ipv6_check.j0 k true d0 d1 d2 d3 d4 d5 d6 d7 d8 d9 l0_10 d11 d12 d13 d14 d15))) = some r := h
 clear h
 have HC2 := As H
 clear H
 go_enter Tryd.func59, Tryd.ntmps59
 go_upto_region 1 with (first | ((with_reducible refine gate_dst (N := 1) rfl ?_); (try (refine gate_guard (by rfl) ?_; dsimp only)); refine box_event rfl (N := 1) rfl (cs := #[.int .i64 d0, .int .i64 d1, .int .i64 d2, .int .i64 d3, .bool d4, .int .u64 d5, .int .u64 d6, .bool d7, .int .u64 d8, .int .u64 d9, .slice A0_10 l0_10.length c0_10, .bool d11, .int .i64 d12, .int .i64 d13, .bool d14, .string d15]) (t := 60) kG ?_; intro gb244 hg w3 hbox hb; have BK244 := As (hbox); have GW244 := As (gS hg (below_size (kB HB.out))); have GE244 := As (gS hg (below_size (kB HB.out))); replace HB := As (below_step (kB HB.out) hb); clear hb hbox hg))
 (try simp only [Act.put, sA, sZ, sS])
 go_cut [6] (fun v6 wc => ∃ (kq : Nat) (x6_1 : Bool), v6 = .bool x6_1 ∧ Aside0 (ipv6_check.j0 kq x6_1 d0 d1 d2 d3 d4 d5 d6 d7 d8 d9 l0_10 d11 d12 d13 d14 d15 = some r) ∧ Aside0 (kq ≤ k) ∧ Aside0 (wc.heap[gb244]? = some (.cells #[.int .i64 d0, .int .i64 d1, .int .i64 d2, .int .i64 d3, .bool d4, .int .u64 d5, .int .u64 d6, .bool d7, .int .u64 d8, .int .u64 d9, (.slice A0_10 l0_10.length c0_10), .bool d11, .int .i64 d12, .int .i64 d13, .bool d14, .string d15] 60 (0, 0))) ∧ Aside0 (Below w.heap.size w wc))
 case first =>
  have H := HC2.out
  clear HC2
  obtain ⟨y245, hy245⟩ : ∃ y_ : List Int, y_ = (([d0, d2, d3] : List Int)) := ⟨_, rfl⟩
  replace H : ((ipv6_within.f k 255 y245).bind fun t248 => (if t248 = true then ((ipv6_within.f k 1048575 (([d1] : List Int))).bind fun t252 => (ipv6_check.j0 k (!t252) d0 d1 d2 d3 d4 d5 d6 d7 d8 d9 l0_10 d11 d12 d13 d14 d15)) else (ipv6_check.j0 k true d0 d1 d2 d3 d4 d5 d6 d7 d8 d9 l0_10 d11 d12 d13 d14 d15))) = some r := by first | (rw [hy245]; with_reducible exact H) | (have H2_ := (Option.bind_some _ _).symm.trans H; rw [hy245]; with_reducible exact H2_) | (have H2_ := (Option.bind_some _ _).symm.trans H; with_reducible exact H2_) | with_reducible exact H | (rw [hy245]; exact H) | exact H
  have Ny245 := As hy245
  clear hy245
  replace H := bS H
  obtain ⟨t248, A4, H⟩ := H
  by_cases c5 : t248 = true
  ·subst c5
   rw [if_pos rfl] at H
   obtain ⟨y249, hy249⟩ : ∃ y_ : List Int, y_ = (([d1] : List Int)) := ⟨_, rfl⟩
   replace H : ((ipv6_within.f k 1048575 y249).bind fun t252 => (ipv6_check.j0 k (!t252) d0 d1 d2 d3 d4 d5 d6 d7 d8 d9 l0_10 d11 d12 d13 d14 d15)) = some r := by first | (rw [hy249]; with_reducible exact H) | (have H2_ := (Option.bind_some _ _).symm.trans H; rw [hy249]; with_reducible exact H2_) | (have H2_ := (Option.bind_some _ _).symm.trans H; with_reducible exact H2_) | with_reducible exact H | (rw [hy249]; exact H) | exact H
   have Ny249 := As hy249
   clear hy249
   replace H := bS H
   obtain ⟨t252, A6, H⟩ := H
   have H' := As H
   clear H
   have hcz7_0 := cells_16 BK244.out
   have hfz7_0 := fun j_ => blk_frozen BK244.out j_
   go_wp2_with (first | ((with_reducible refine gate_dst (N := 13) rfl ?_); (try (refine gate_guard (by rfl) ?_; dsimp only)); refine Kd.R_lit (Kd.int .i64) _ 3 rfl (N := 13) rfl (xs := ([d0, d2, d3] : List Int)) (inner := [.int .i64 d0, .int .i64 d2, .int .i64 d3]) (ok := fun _ => True) (okp := fun _ => True) kG ?hp (fun _ hk => hk) trivial (Below.refl _ _) (Nat.le_refl _) (by simp) ?_; (case hp => exact (Reps.one (show Kd.M (Kd.int .i64) _ _ _ d0 [.int .i64 d0] from rfl) (Reps.one (show Kd.M (Kd.int .i64) _ _ _ d2 [.int .i64 d2] from rfl) (Reps.one (show Kd.M (Kd.int .i64) _ _ _ d3 [.int .i64 d3] from rfl) (Reps.none _ _))))); intro v246 w8 ho9 hb hg_ hnew_; clear hg_ hnew_; (first | rw [← Ny245.out] at ho9 | (simp only [Int.reduceToNat] at ho9; rw [← Ny245.out] at ho9)); have HO247 := As (Kd.R_lower ho9 (below_size (kB1 HB.out GE244.out))); replace BK244 := As (blk_below (kb BK244.out) hb); replace HB := As (below_step (kB1 HB.out GE244.out) hb); clear hb ho9; obtain ⟨Ao10, co10, eo10⟩ := Kd.R_slice HO247.out; subst eo10) | ((with_reducible refine gate_callee (f := 95) rfl ?_); refine goesL_ (some 14) rfl rfl Tryd.func95 (by kernel_rfl) rfl #[.int .i64 255, .slice Ao10 y245.length co10] rfl kA ?_; (with_reducible refine (ipv6_within.calls k 255 _ _ y245 true _ ?side1 ?side2 A4.out).mono ?_); (case side1 => repeat (first | exact (Kd.R_reads' HO247.out).2.2 | (with_reducible refine Kd.C_alloc ?_ _) | (with_reducible refine Kd.C_drewN ?_ _) | (with_reducible refine Kd.C_drew ?_))); (case side2 => exact (Kd.R_reads' HO247.out).2.1); rintro e w' ⟨rfl, ⟨nd, rfl⟩⟩; refine ⟨_, rfl, ?_⟩; have hcz11_0 := cells_16 BK244.out; have hfz11_0 := fun j_ => blk_frozen BK244.out j_) | ((with_reducible refine gate_dst (N := 19) rfl ?_); (try (refine gate_guard (by rfl) ?_; dsimp only)); refine Kd.R_lit (Kd.int .i64) _ 3 rfl (N := 19) rfl (xs := ([d1] : List Int)) (inner := [.int .i64 d1]) (ok := fun _ => True) (okp := fun _ => True) kG ?hp (fun _ hk => hk) trivial (Below.refl _ _) (Nat.le_refl _) (by simp) ?_; (case hp => exact (Reps.one (show Kd.M (Kd.int .i64) _ _ _ d1 [.int .i64 d1] from rfl) (Reps.none _ _))); intro v250 w12 ho13 hb hg_ hnew_; clear hg_ hnew_; (first | rw [← Ny249.out] at ho13 | (simp only [Int.reduceToNat] at ho13; rw [← Ny249.out] at ho13)); have HO251 := As (Kd.R_lower (Kd.R_new' ho13 (Kd.R_lt (kR HO247.out))) (below_size (kB1 HB.out GE244.out))); replace HO247 := As (Kd.R_elder' (kR HO247.out) (Kd.R_base ho13) hb); replace BK244 := As (blk_below (kb BK244.out) hb); replace HB := As (below_step (kB1 HB.out GE244.out) hb); clear hb ho13; obtain ⟨Ao14, co14, eo14⟩ := Kd.R_slice HO251.out; subst eo14) | (go_at_call 95; (with_reducible refine (ipv6_within.calls k 1048575 _ _ y249 t252 _ ?side1 ?side2 A6.out).mono ?_); (case side1 => repeat (first | exact (Kd.R_reads' HO251.out).2.2 | (with_reducible refine Kd.C_alloc ?_ _) | (with_reducible refine Kd.C_drewN ?_ _) | (with_reducible refine Kd.C_drew ?_))); (case side2 => exact (Kd.R_reads' HO251.out).2.1); rintro e w' ⟨rfl, ⟨nd, rfl⟩⟩))
   go_meet
   case rel => exact ⟨_, (!t252), kS, H', ⟨by first | omega | exact Nat.le_refl _⟩, ⟨kb BK244.out⟩, ⟨kB1 HB.out GE244.out⟩⟩
  replace c5 := Bool.eq_false_iff.mpr c5
  subst c5
  rw [if_neg (show ¬ (false = true) by decide)] at H
  have H' := As H
  clear H
  have hcz15_0 := cells_16 BK244.out
  have hfz15_0 := fun j_ => blk_frozen BK244.out j_
  go_wp2_with (first | ((with_reducible refine gate_dst (N := 13) rfl ?_); (try (refine gate_guard (by rfl) ?_; dsimp only)); refine Kd.R_lit (Kd.int .i64) _ 3 rfl (N := 13) rfl (xs := ([d0, d2, d3] : List Int)) (inner := [.int .i64 d0, .int .i64 d2, .int .i64 d3]) (ok := fun _ => True) (okp := fun _ => True) kG ?hp (fun _ hk => hk) trivial (Below.refl _ _) (Nat.le_refl _) (by simp) ?_; (case hp => exact (Reps.one (show Kd.M (Kd.int .i64) _ _ _ d0 [.int .i64 d0] from rfl) (Reps.one (show Kd.M (Kd.int .i64) _ _ _ d2 [.int .i64 d2] from rfl) (Reps.one (show Kd.M (Kd.int .i64) _ _ _ d3 [.int .i64 d3] from rfl) (Reps.none _ _))))); intro v246 w16 ho17 hb hg_ hnew_; clear hg_ hnew_; (first | rw [← Ny245.out] at ho17 | (simp only [Int.reduceToNat] at ho17; rw [← Ny245.out] at ho17)); have HO247 := As (Kd.R_lower ho17 (below_size (kB1 HB.out GE244.out))); replace BK244 := As (blk_below (kb BK244.out) hb); replace HB := As (below_step (kB1 HB.out GE244.out) hb); clear hb ho17; obtain ⟨Ao18, co18, eo18⟩ := Kd.R_slice HO247.out; subst eo18) | ((with_reducible refine gate_callee (f := 95) rfl ?_); refine goesL_ (some 14) rfl rfl Tryd.func95 (by kernel_rfl) rfl #[.int .i64 255, .slice Ao18 y245.length co18] rfl kA ?_; (with_reducible refine (ipv6_within.calls k 255 _ _ y245 false _ ?side1 ?side2 A4.out).mono ?_); (case side1 => repeat (first | exact (Kd.R_reads' HO247.out).2.2 | (with_reducible refine Kd.C_alloc ?_ _) | (with_reducible refine Kd.C_drewN ?_ _) | (with_reducible refine Kd.C_drew ?_))); (case side2 => exact (Kd.R_reads' HO247.out).2.1); rintro e w' ⟨rfl, ⟨nd, rfl⟩⟩; refine ⟨_, rfl, ?_⟩))
  go_meet
  case rel => exact ⟨_, (true), kS, H', ⟨by first | omega | exact Nat.le_refl _⟩, ⟨kb BK244.out⟩, ⟨kB1 HB.out GE244.out⟩⟩
 clear HC2
 obtain ⟨kq, x6_1, rfl, HA, HJ1, BK244, HB⟩ := hcut
 cases kq with
 | zero => exact absurd HA.out (by simp [ipv6_check.j0])
 | succ kj1 =>
  have H := HA.out
  clear HA
  simp only [ipv6_check.j0] at H
  by_cases c19 : x6_1 = true
  ·subst c19
   rw [if_pos rfl] at H
   obtain rfl := Option.some.inj H
   go_wp2
   go_ret
   exact ⟨kE, by exact kB1 HB.out GE244.out⟩
  replace c19 := Bool.eq_false_iff.mpr c19
  subst c19
  rw [if_neg (show ¬ (false = true) by decide)] at H
  have HC20 := As H
  clear H
  go_upto_region 3 with (fail)
  go_cut [23] (fun v23 wc => ∃ (kq : Nat) (x23_19 : Bool), v23 = .bool x23_19 ∧ Aside0 (ipv6_check.j1 kq x23_19 d0 d1 d2 d3 d4 d5 d6 d7 d8 d9 l0_10 d11 d12 d13 d14 d15 = some r) ∧ Aside0 (kq ≤ kj1) ∧ Aside0 (wc.heap[gb244]? = some (.cells #[.int .i64 d0, .int .i64 d1, .int .i64 d2, .int .i64 d3, .bool d4, .int .u64 d5, .int .u64 d6, .bool d7, .int .u64 d8, .int .u64 d9, (.slice A0_10 l0_10.length c0_10), .bool d11, .int .i64 d12, .int .i64 d13, .bool d14, .string d15] 60 (0, 0))) ∧ Aside0 (Below w.heap.size w wc))
  case first =>
   have H := HC20.out
   clear HC20
   replace H := bS H
   obtain ⟨t253, A21, H⟩ := H
   by_cases c22 : t253 = true
   ·subst c22
    rw [if_pos rfl] at H
    have H' := As H
    clear H
    have hcz23_0 := cells_16 BK244.out
    have hfz23_0 := fun j_ => blk_frozen BK244.out j_
    go_wp2_with (first | ((with_reducible refine gate_callee (f := 96) rfl ?_); refine goesL_ (some 26) rfl rfl Tryd.func96 (by kernel_rfl) rfl #[.int .i64 d3] rfl kA ?_; (with_reducible refine (ipv6_extension.calls d3 true _ A21.out).mono ?_); rintro e w' ⟨rfl, ⟨nd, rfl⟩⟩; refine ⟨_, rfl, ?_⟩))
    go_meet
    case rel => exact ⟨_, (true), kS, H', ⟨by have := HJ1.out; first | omega | exact Nat.le_refl _⟩, ⟨kb BK244.out⟩, ⟨kB1 HB.out GE244.out⟩⟩
   replace c22 := Bool.eq_false_iff.mpr c22
   subst c22
   rw [if_neg (show ¬ (false = true) by decide)] at H
   by_cases c24 : d3 = 44
   ·rw [if_pos c24] at H
    have c24b0 : (d3 == 44) = true := beq_iff_eq.mpr c24
    have c24b1 : (d3 != 44) = false := bne_eq_false_iff_eq.mpr c24
    clear c24
    (first | rw [c24b0] | (simp only [i64_w, i32_w]; rw [c24b0]) | skip)
    have H' := As H
    clear H
    have hcz25_0 := cells_16 BK244.out
    have hfz25_0 := fun j_ => blk_frozen BK244.out j_
    go_wp2_with (first | ((with_reducible refine gate_callee (f := 96) rfl ?_); refine goesL_ (some 26) rfl rfl Tryd.func96 (by kernel_rfl) rfl #[.int .i64 d3] rfl kA ?_; (with_reducible refine (ipv6_extension.calls d3 false _ A21.out).mono ?_); rintro e w' ⟨rfl, ⟨nd, rfl⟩⟩; refine ⟨_, rfl, ?_⟩))
    go_meet
    case rel => exact ⟨_, (true), kS, H', ⟨by have := HJ1.out; first | omega | exact Nat.le_refl _⟩, ⟨kb BK244.out⟩, ⟨kB1 HB.out GE244.out⟩⟩
   rw [if_neg c24] at H
   have c24b0 : (d3 == 44) = false := beq_eq_false_iff_ne.mpr c24
   have c24b1 : (d3 != 44) = true := bne_iff_ne.mpr c24
   (first | rw [c24b0] | (simp only [i64_w, i32_w]; rw [c24b0]) | skip)
   by_cases c26 : d4 = true
   ·subst c26
    rw [if_pos rfl] at H
    have H' := As H
    clear H
    have hcz27_0 := cells_16 BK244.out
    have hfz27_0 := fun j_ => blk_frozen BK244.out j_
    go_wp2_with (first | ((with_reducible refine gate_callee (f := 96) rfl ?_); refine goesL_ (some 26) rfl rfl Tryd.func96 (by kernel_rfl) rfl #[.int .i64 d3] rfl kA ?_; (with_reducible refine (ipv6_extension.calls d3 false _ A21.out).mono ?_); rintro e w' ⟨rfl, ⟨nd, rfl⟩⟩; refine ⟨_, rfl, ?_⟩))
    go_meet
    case rel => exact ⟨_, (!d7), kS, H', ⟨by have := HJ1.out; first | omega | exact Nat.le_refl _⟩, ⟨kb BK244.out⟩, ⟨kB1 HB.out GE244.out⟩⟩
   replace c26 := Bool.eq_false_iff.mpr c26
   subst c26
   rw [if_neg (show ¬ (false = true) by decide)] at H
   have H' := As H
   clear H
   have hcz28_0 := cells_16 BK244.out
   have hfz28_0 := fun j_ => blk_frozen BK244.out j_
   go_wp2_with (first | ((with_reducible refine gate_callee (f := 96) rfl ?_); refine goesL_ (some 26) rfl rfl Tryd.func96 (by kernel_rfl) rfl #[.int .i64 d3] rfl kA ?_; (with_reducible refine (ipv6_extension.calls d3 false _ A21.out).mono ?_); rintro e w' ⟨rfl, ⟨nd, rfl⟩⟩; refine ⟨_, rfl, ?_⟩))
   go_meet
   case rel => exact ⟨_, (true), kS, H', ⟨by have := HJ1.out; first | omega | exact Nat.le_refl _⟩, ⟨kb BK244.out⟩, ⟨kB1 HB.out GE244.out⟩⟩
  clear HC20
  try clear c19
  obtain ⟨kq, x23_19, rfl, HA, HJ19, BK244, HB⟩ := hcut
  cases kq with
  | zero => exact absurd HA.out (by simp [ipv6_check.j1])
  | succ kj19 =>
   have H := HA.out
   clear HA
   simp only [ipv6_check.j1] at H
   by_cases c29 : x23_19 = true
   ·subst c29
    rw [if_pos rfl] at H
    obtain rfl := Option.some.inj H
    go_wp2
    go_ret
    exact ⟨kE, by exact kB1 HB.out GE244.out⟩
   replace c29 := Bool.eq_false_iff.mpr c29
   subst c29
   rw [if_neg (show ¬ (false = true) by decide)] at H
   have HC30 := As H
   clear H
   go_upto_region 5 with (fail)
   go_cut [44] (fun v44 wc => ∃ (kq : Nat) (x44_29 : Bool), v44 = .bool x44_29 ∧ Aside0 (ipv6_check.j2 kq x44_29 d0 d1 d2 d3 d4 d5 d6 d7 d8 d9 l0_10 d11 d12 d13 d14 d15 = some r) ∧ Aside0 (kq ≤ kj19) ∧ Aside0 (wc.heap[gb244]? = some (.cells #[.int .i64 d0, .int .i64 d1, .int .i64 d2, .int .i64 d3, .bool d4, .int .u64 d5, .int .u64 d6, .bool d7, .int .u64 d8, .int .u64 d9, (.slice A0_10 l0_10.length c0_10), .bool d11, .int .i64 d12, .int .i64 d13, .bool d14, .string d15] 60 (0, 0))) ∧ Aside0 (Below w.heap.size w wc))
   case first =>
    have H := HC30.out
    clear HC30
    by_cases c31 : d11 = true
    ·subst c31
     rw [if_pos rfl] at H
     obtain ⟨y254, hy254⟩ : ∃ y_ : List Int, y_ = (([d12] : List Int)) := ⟨_, rfl⟩
     replace H : ((ipv6_within.f kj19 4294967295 y254).bind fun t257 => (if t257 = true then ((ipv6_within.f kj19 65528 (([d13] : List Int))).bind fun t261 => (if t261 = true then (ipv6_check.j2 kj19 ((Int.tmod d13 8) != 0) d0 d1 d2 d3 d4 d5 d6 d7 d8 d9 l0_10 true d12 d13 d14 d15) else (ipv6_check.j2 kj19 true d0 d1 d2 d3 d4 d5 d6 d7 d8 d9 l0_10 true d12 d13 d14 d15))) else (ipv6_check.j2 kj19 true d0 d1 d2 d3 d4 d5 d6 d7 d8 d9 l0_10 true d12 d13 d14 d15))) = some r := by first | (rw [hy254]; with_reducible exact H) | (have H2_ := (Option.bind_some _ _).symm.trans H; rw [hy254]; with_reducible exact H2_) | (have H2_ := (Option.bind_some _ _).symm.trans H; with_reducible exact H2_) | with_reducible exact H | (rw [hy254]; exact H) | exact H
     have Ny254 := As hy254
     clear hy254
     replace H := bS H
     obtain ⟨t257, A32, H⟩ := H
     by_cases c33 : t257 = true
     ·subst c33
      rw [if_pos rfl] at H
      obtain ⟨y258, hy258⟩ : ∃ y_ : List Int, y_ = (([d13] : List Int)) := ⟨_, rfl⟩
      replace H : ((ipv6_within.f kj19 65528 y258).bind fun t261 => (if t261 = true then (ipv6_check.j2 kj19 ((Int.tmod d13 8) != 0) d0 d1 d2 d3 d4 d5 d6 d7 d8 d9 l0_10 true d12 d13 d14 d15) else (ipv6_check.j2 kj19 true d0 d1 d2 d3 d4 d5 d6 d7 d8 d9 l0_10 true d12 d13 d14 d15))) = some r := by first | (rw [hy258]; with_reducible exact H) | (have H2_ := (Option.bind_some _ _).symm.trans H; rw [hy258]; with_reducible exact H2_) | (have H2_ := (Option.bind_some _ _).symm.trans H; with_reducible exact H2_) | with_reducible exact H | (rw [hy258]; exact H) | exact H
      have Ny258 := As hy258
      clear hy258
      replace H := bS H
      obtain ⟨t261, A34, H⟩ := H
      by_cases c35 : t261 = true
      ·subst c35
       rw [if_pos rfl] at H
       have H' := As H
       clear H
       have hcz36_0 := cells_16 BK244.out
       have hfz36_0 := fun j_ => blk_frozen BK244.out j_
       go_wp2_with (first | ((with_reducible refine gate_dst (N := 50) rfl ?_); (try (refine gate_guard (by rfl) ?_; dsimp only)); refine Kd.R_lit (Kd.int .i64) _ 3 rfl (N := 50) rfl (xs := ([d12] : List Int)) (inner := [.int .i64 d12]) (ok := fun _ => True) (okp := fun _ => True) kG ?hp (fun _ hk => hk) trivial (Below.refl _ _) (Nat.le_refl _) (by simp) ?_; (case hp => exact (Reps.one (show Kd.M (Kd.int .i64) _ _ _ d12 [.int .i64 d12] from rfl) (Reps.none _ _))); intro v255 w37 ho38 hb hg_ hnew_; clear hg_ hnew_; (first | rw [← Ny254.out] at ho38 | (simp only [Int.reduceToNat] at ho38; rw [← Ny254.out] at ho38)); have HO256 := As (Kd.R_lower ho38 (below_size (kB1 HB.out GE244.out))); replace BK244 := As (blk_below (kb BK244.out) hb); replace HB := As (below_step (kB1 HB.out GE244.out) hb); clear hb ho38; obtain ⟨Ao39, co39, eo39⟩ := Kd.R_slice HO256.out; subst eo39) | (go_at_call 95; (with_reducible refine (ipv6_within.calls kj19 4294967295 _ _ y254 true _ ?side1 ?side2 A32.out).mono ?_); (case side1 => repeat (first | exact (Kd.R_reads' HO256.out).2.2 | (with_reducible refine Kd.C_alloc ?_ _) | (with_reducible refine Kd.C_drewN ?_ _) | (with_reducible refine Kd.C_drew ?_))); (case side2 => exact (Kd.R_reads' HO256.out).2.1); rintro e w' ⟨rfl, ⟨nd, rfl⟩⟩; have hcz40_0 := cells_16 BK244.out; have hfz40_0 := fun j_ => blk_frozen BK244.out j_) | ((with_reducible refine gate_dst (N := 56) rfl ?_); (try (refine gate_guard (by rfl) ?_; dsimp only)); refine Kd.R_lit (Kd.int .i64) _ 3 rfl (N := 56) rfl (xs := ([d13] : List Int)) (inner := [.int .i64 d13]) (ok := fun _ => True) (okp := fun _ => True) kG ?hp (fun _ hk => hk) trivial (Below.refl _ _) (Nat.le_refl _) (by simp) ?_; (case hp => exact (Reps.one (show Kd.M (Kd.int .i64) _ _ _ d13 [.int .i64 d13] from rfl) (Reps.none _ _))); intro v259 w41 ho42 hb hg_ hnew_; clear hg_ hnew_; (first | rw [← Ny258.out] at ho42 | (simp only [Int.reduceToNat] at ho42; rw [← Ny258.out] at ho42)); have HO260 := As (Kd.R_lower (Kd.R_new' ho42 (Kd.R_lt (kR HO256.out))) (below_size (kB1 HB.out GE244.out))); replace HO256 := As (Kd.R_elder' (kR HO256.out) (Kd.R_base ho42) hb); replace BK244 := As (blk_below (kb BK244.out) hb); replace HB := As (below_step (kB1 HB.out GE244.out) hb); clear hb ho42; obtain ⟨Ao43, co43, eo43⟩ := Kd.R_slice HO260.out; subst eo43) | (go_at_call 95; (with_reducible refine (ipv6_within.calls kj19 65528 _ _ y258 true _ ?side1 ?side2 A34.out).mono ?_); (case side1 => repeat (first | exact (Kd.R_reads' HO260.out).2.2 | (with_reducible refine Kd.C_alloc ?_ _) | (with_reducible refine Kd.C_drewN ?_ _) | (with_reducible refine Kd.C_drew ?_))); (case side2 => exact (Kd.R_reads' HO260.out).2.1); rintro e w' ⟨rfl, ⟨nd, rfl⟩⟩; have hcz44_0 := cells_16 BK244.out; have hfz44_0 := fun j_ => blk_frozen BK244.out j_))
       go_meet
       case rel => exact ⟨_, (((Int.tmod d13 8) != 0)), kS, H', ⟨by have := HJ1.out; have := HJ19.out; first | omega | exact Nat.le_refl _⟩, ⟨kb BK244.out⟩, ⟨kB1 HB.out GE244.out⟩⟩
      replace c35 := Bool.eq_false_iff.mpr c35
      subst c35
      rw [if_neg (show ¬ (false = true) by decide)] at H
      have H' := As H
      clear H
      have hcz45_0 := cells_16 BK244.out
      have hfz45_0 := fun j_ => blk_frozen BK244.out j_
      go_wp2_with (first | ((with_reducible refine gate_dst (N := 50) rfl ?_); (try (refine gate_guard (by rfl) ?_; dsimp only)); refine Kd.R_lit (Kd.int .i64) _ 3 rfl (N := 50) rfl (xs := ([d12] : List Int)) (inner := [.int .i64 d12]) (ok := fun _ => True) (okp := fun _ => True) kG ?hp (fun _ hk => hk) trivial (Below.refl _ _) (Nat.le_refl _) (by simp) ?_; (case hp => exact (Reps.one (show Kd.M (Kd.int .i64) _ _ _ d12 [.int .i64 d12] from rfl) (Reps.none _ _))); intro v255 w46 ho47 hb hg_ hnew_; clear hg_ hnew_; (first | rw [← Ny254.out] at ho47 | (simp only [Int.reduceToNat] at ho47; rw [← Ny254.out] at ho47)); have HO256 := As (Kd.R_lower ho47 (below_size (kB1 HB.out GE244.out))); replace BK244 := As (blk_below (kb BK244.out) hb); replace HB := As (below_step (kB1 HB.out GE244.out) hb); clear hb ho47; obtain ⟨Ao48, co48, eo48⟩ := Kd.R_slice HO256.out; subst eo48) | (go_at_call 95; (with_reducible refine (ipv6_within.calls kj19 4294967295 _ _ y254 true _ ?side1 ?side2 A32.out).mono ?_); (case side1 => repeat (first | exact (Kd.R_reads' HO256.out).2.2 | (with_reducible refine Kd.C_alloc ?_ _) | (with_reducible refine Kd.C_drewN ?_ _) | (with_reducible refine Kd.C_drew ?_))); (case side2 => exact (Kd.R_reads' HO256.out).2.1); rintro e w' ⟨rfl, ⟨nd, rfl⟩⟩; have hcz49_0 := cells_16 BK244.out; have hfz49_0 := fun j_ => blk_frozen BK244.out j_) | ((with_reducible refine gate_dst (N := 56) rfl ?_); (try (refine gate_guard (by rfl) ?_; dsimp only)); refine Kd.R_lit (Kd.int .i64) _ 3 rfl (N := 56) rfl (xs := ([d13] : List Int)) (inner := [.int .i64 d13]) (ok := fun _ => True) (okp := fun _ => True) kG ?hp (fun _ hk => hk) trivial (Below.refl _ _) (Nat.le_refl _) (by simp) ?_; (case hp => exact (Reps.one (show Kd.M (Kd.int .i64) _ _ _ d13 [.int .i64 d13] from rfl) (Reps.none _ _))); intro v259 w50 ho51 hb hg_ hnew_; clear hg_ hnew_; (first | rw [← Ny258.out] at ho51 | (simp only [Int.reduceToNat] at ho51; rw [← Ny258.out] at ho51)); have HO260 := As (Kd.R_lower (Kd.R_new' ho51 (Kd.R_lt (kR HO256.out))) (below_size (kB1 HB.out GE244.out))); replace HO256 := As (Kd.R_elder' (kR HO256.out) (Kd.R_base ho51) hb); replace BK244 := As (blk_below (kb BK244.out) hb); replace HB := As (below_step (kB1 HB.out GE244.out) hb); clear hb ho51; obtain ⟨Ao52, co52, eo52⟩ := Kd.R_slice HO260.out; subst eo52) | (go_at_call 95; (with_reducible refine (ipv6_within.calls kj19 65528 _ _ y258 false _ ?side1 ?side2 A34.out).mono ?_); (case side1 => repeat (first | exact (Kd.R_reads' HO260.out).2.2 | (with_reducible refine Kd.C_alloc ?_ _) | (with_reducible refine Kd.C_drewN ?_ _) | (with_reducible refine Kd.C_drew ?_))); (case side2 => exact (Kd.R_reads' HO260.out).2.1); rintro e w' ⟨rfl, ⟨nd, rfl⟩⟩))
      go_meet
      case rel => exact ⟨_, (true), kS, H', ⟨by have := HJ1.out; have := HJ19.out; first | omega | exact Nat.le_refl _⟩, ⟨kb BK244.out⟩, ⟨kB1 HB.out GE244.out⟩⟩
     replace c33 := Bool.eq_false_iff.mpr c33
     subst c33
     rw [if_neg (show ¬ (false = true) by decide)] at H
     have H' := As H
     clear H
     have hcz53_0 := cells_16 BK244.out
     have hfz53_0 := fun j_ => blk_frozen BK244.out j_
     go_wp2_with (first | ((with_reducible refine gate_dst (N := 50) rfl ?_); (try (refine gate_guard (by rfl) ?_; dsimp only)); refine Kd.R_lit (Kd.int .i64) _ 3 rfl (N := 50) rfl (xs := ([d12] : List Int)) (inner := [.int .i64 d12]) (ok := fun _ => True) (okp := fun _ => True) kG ?hp (fun _ hk => hk) trivial (Below.refl _ _) (Nat.le_refl _) (by simp) ?_; (case hp => exact (Reps.one (show Kd.M (Kd.int .i64) _ _ _ d12 [.int .i64 d12] from rfl) (Reps.none _ _))); intro v255 w54 ho55 hb hg_ hnew_; clear hg_ hnew_; (first | rw [← Ny254.out] at ho55 | (simp only [Int.reduceToNat] at ho55; rw [← Ny254.out] at ho55)); have HO256 := As (Kd.R_lower ho55 (below_size (kB1 HB.out GE244.out))); replace BK244 := As (blk_below (kb BK244.out) hb); replace HB := As (below_step (kB1 HB.out GE244.out) hb); clear hb ho55; obtain ⟨Ao56, co56, eo56⟩ := Kd.R_slice HO256.out; subst eo56) | (go_at_call 95; (with_reducible refine (ipv6_within.calls kj19 4294967295 _ _ y254 false _ ?side1 ?side2 A32.out).mono ?_); (case side1 => repeat (first | exact (Kd.R_reads' HO256.out).2.2 | (with_reducible refine Kd.C_alloc ?_ _) | (with_reducible refine Kd.C_drewN ?_ _) | (with_reducible refine Kd.C_drew ?_))); (case side2 => exact (Kd.R_reads' HO256.out).2.1); rintro e w' ⟨rfl, ⟨nd, rfl⟩⟩))
     go_meet
     case rel => exact ⟨_, (true), kS, H', ⟨by have := HJ1.out; have := HJ19.out; first | omega | exact Nat.le_refl _⟩, ⟨kb BK244.out⟩, ⟨kB1 HB.out GE244.out⟩⟩
    replace c31 := Bool.eq_false_iff.mpr c31
    subst c31
    rw [if_neg (show ¬ (false = true) by decide)] at H
    have H' := As H
    clear H
    have hcz57_0 := cells_16 BK244.out
    have hfz57_0 := fun j_ => blk_frozen BK244.out j_
    go_wp2
    go_meet
    case rel => exact ⟨_, (false), kS, H', ⟨by have := HJ1.out; have := HJ19.out; first | omega | exact Nat.le_refl _⟩, ⟨kb BK244.out⟩, ⟨kB1 HB.out GE244.out⟩⟩
   clear HC30
   try clear c29
   obtain ⟨kq, x44_29, rfl, HA, HJ29, BK244, HB⟩ := hcut
   cases kq with
   | zero => exact absurd HA.out (by simp [ipv6_check.j2])
   | succ kj29 =>
    have H := HA.out
    clear HA
    simp only [ipv6_check.j2] at H
    by_cases c58 : x44_29 = true
    ·subst c58
     rw [if_pos rfl] at H
     obtain rfl := Option.some.inj H
     go_wp2
     go_ret
     exact ⟨kE, by exact kB1 HB.out GE244.out⟩
    replace c58 := Bool.eq_false_iff.mpr c58
    subst c58
    rw [if_neg (show ¬ (false = true) by decide)] at H
    have HC59 := As H
    clear H
    go_upto_region 7 with (fail)
    go_cut [67] (fun v67 wc => ∃ (kq : Nat) (x67_58 : Bool), v67 = .bool x67_58 ∧ Aside0 (ipv6_check.j3 kq x67_58 d0 d1 d2 d3 d4 d5 d6 d7 d8 d9 l0_10 d11 d12 d13 d14 d15 = some r) ∧ Aside0 (kq ≤ kj29) ∧ Aside0 (wc.heap[gb244]? = some (.cells #[.int .i64 d0, .int .i64 d1, .int .i64 d2, .int .i64 d3, .bool d4, .int .u64 d5, .int .u64 d6, .bool d7, .int .u64 d8, .int .u64 d9, (.slice A0_10 l0_10.length c0_10), .bool d11, .int .i64 d12, .int .i64 d13, .bool d14, .string d15] 60 (0, 0))) ∧ Aside0 (Below w.heap.size w wc))
    case first =>
     have H := HC59.out
     clear HC59
     by_cases c60 : d11 = true
     ·subst c60
      rw [if_pos rfl] at H
      have H' := As H
      clear H
      have hcz61_0 := cells_16 BK244.out
      have hfz61_0 := fun j_ => blk_frozen BK244.out j_
      go_wp2
      go_meet
      case rel => exact ⟨_, (false), kS, H', ⟨by have := HJ1.out; have := HJ19.out; have := HJ29.out; first | omega | exact Nat.le_refl _⟩, ⟨kb BK244.out⟩, ⟨kB1 HB.out GE244.out⟩⟩
     replace c60 := Bool.eq_false_iff.mpr c60
     subst c60
     rw [if_neg (show ¬ (false = true) by decide)] at H
     by_cases c62 : d12 = 0
     ·rw [if_pos c62] at H
      have c62b0 : (d12 == 0) = true := beq_iff_eq.mpr c62
      have c62b1 : (d12 != 0) = false := bne_eq_false_iff_eq.mpr c62
      clear c62
      (first | rw [c62b0] | (simp only [i64_w, i32_w]; rw [c62b0]) | skip)
      by_cases c63 : d13 = 0
      ·rw [if_pos c63] at H
       have c63b0 : (d13 == 0) = true := beq_iff_eq.mpr c63
       have c63b1 : (d13 != 0) = false := bne_eq_false_iff_eq.mpr c63
       clear c63
       have H' := As H
       clear H
       have hcz64_0 := cells_16 BK244.out
       have hfz64_0 := fun j_ => blk_frozen BK244.out j_
       go_wp2
       go_meet
       case rel => exact ⟨_, (d14), kS, H', ⟨by have := HJ1.out; have := HJ19.out; have := HJ29.out; first | omega | exact Nat.le_refl _⟩, ⟨kb BK244.out⟩, ⟨kB1 HB.out GE244.out⟩⟩
      rw [if_neg c63] at H
      have c63b0 : (d13 == 0) = false := beq_eq_false_iff_ne.mpr c63
      have c63b1 : (d13 != 0) = true := bne_iff_ne.mpr c63
      have H' := As H
      clear H
      have hcz65_0 := cells_16 BK244.out
      have hfz65_0 := fun j_ => blk_frozen BK244.out j_
      go_wp2
      go_meet
      case rel => exact ⟨_, (true), kS, H', ⟨by have := HJ1.out; have := HJ19.out; have := HJ29.out; first | omega | exact Nat.le_refl _⟩, ⟨kb BK244.out⟩, ⟨kB1 HB.out GE244.out⟩⟩
     rw [if_neg c62] at H
     have c62b0 : (d12 == 0) = false := beq_eq_false_iff_ne.mpr c62
     have c62b1 : (d12 != 0) = true := bne_iff_ne.mpr c62
     (first | rw [c62b0] | (simp only [i64_w, i32_w]; rw [c62b0]) | skip)
     have H' := As H
     clear H
     have hcz66_0 := cells_16 BK244.out
     have hfz66_0 := fun j_ => blk_frozen BK244.out j_
     go_wp2
     go_meet
     case rel => exact ⟨_, (true), kS, H', ⟨by have := HJ1.out; have := HJ19.out; have := HJ29.out; first | omega | exact Nat.le_refl _⟩, ⟨kb BK244.out⟩, ⟨kB1 HB.out GE244.out⟩⟩
    clear HC59
    try clear c58
    obtain ⟨kq, x67_58, rfl, HA, HJ58, BK244, HB⟩ := hcut
    cases kq with
    | zero => exact absurd HA.out (by simp [ipv6_check.j3])
    | succ kj58 =>
     have H := HA.out
     clear HA
     simp only [ipv6_check.j3] at H
     by_cases c67 : x67_58 = true
     ·subst c67
      rw [if_pos rfl] at H
      obtain rfl := Option.some.inj H
      go_wp2
      go_ret
      exact ⟨kE, by exact kB1 HB.out GE244.out⟩
     replace c67 := Bool.eq_false_iff.mpr c67
     subst c67
     rw [if_neg (show ¬ (false = true) by decide)] at H
     by_cases c68 : (l0_10.length : Int) > 8
     ·rw [if_pos c68] at H
      have c68b0 : decide (8 < (l0_10.length : Int)) = true := decide_eq_true c68
      have c68b1 : decide (8 < l0_10.length) = true := decide_eq_true (by omega)
      clear c68
      obtain rfl := Option.some.inj H
      have hcz69_0 := cells_16 BK244.out
      have hfz69_0 := fun j_ => blk_frozen BK244.out j_
      go_wp2
      go_ret
      exact ⟨kE, by exact kB1 HB.out GE244.out⟩
     rw [if_neg c68] at H
     have c68b0 : decide (8 < (l0_10.length : Int)) = false := decide_eq_false c68
     have c68b1 : decide (8 < l0_10.length) = false := decide_eq_false (by omega)
     clear c68
     have H' := As H
     clear H
     have hcz70_0 := cells_16 BK244.out
     have hfz70_0 := fun j_ => blk_frozen BK244.out j_
     go_wp2
     go_loopg [93] kj58 (fun kq v93 w' => ∃ (x93_5 : Int), v93 = .int .i64 x93_5 ∧ Aside0 (ipv6_check.l0 kq l0_10 (l0_10.length : Int) x93_5 = some r) ∧ Aside0 (kq ≤ kj58) ∧ Aside0 (w'.heap[gb244]? = some (.cells #[.int .i64 d0, .int .i64 d1, .int .i64 d2, .int .i64 d3, .bool d4, .int .u64 d5, .int .u64 d6, .bool d7, .int .u64 d8, .int .u64 d9, (.slice A0_10 l0_10.length c0_10), .bool d11, .int .i64 d12, .int .i64 d13, .bool d14, .string d15] 60 (0, 0))) ∧ Aside0 (Below w.heap.size w w'))
     case atStart => exact ⟨(0), kS, H', ⟨Nat.le_refl _⟩, ⟨kb BK244.out⟩, ⟨kB1 HB.out GE244.out⟩⟩
     clear H'
     try clear c67
     try clear c68
     try clear c68b0
     try clear c68b1
     try clear hcz70_0
     try clear hfz70_0
     obtain ⟨x93_5, rfl, HA, HK5, BK244, HB⟩ := hrel
     cases gk with
     | zero => exact absurd HA.out (by simp [ipv6_check.l0])
     | succ k5 =>
      have H := HA.out
      clear HA
      simp only [ipv6_check.l0] at H
      by_cases c71 : x93_5 < (l0_10.length : Int)
      ·rw [if_pos c71] at H
       have c71b0 : decide (x93_5 < (l0_10.length : Int)) = true := decide_eq_true c71
       clear c71
       replace H := iS H
       obtain ⟨c72, H⟩ := H
       have c72b0 := decide_eq_true c72
       clear c72
       replace H := iS H
       obtain ⟨c73, H⟩ := H
       have c73b0 := decide_eq_true c73
       clear c73
       replace H := bS H
       obtain ⟨t264, A74, H⟩ := H
       by_cases c75 : t264 = true
       ·subst c75
        rw [if_pos rfl] at H
        by_cases c76 : ((rd_T91 l0_10 x93_5).f0) = 0
        ·rw [if_pos c76] at H
         have c76b0 : (((rd_T91 l0_10 x93_5).f0) == 0) = true := beq_iff_eq.mpr c76
         have c76b1 : (((rd_T91 l0_10 x93_5).f0) != 0) = false := bne_eq_false_iff_eq.mpr c76
         clear c76
         by_cases c77 : x93_5 > 0
         ·rw [if_pos c77] at H
          have c77b0 : decide (0 < x93_5) = true := decide_eq_true c77
          clear c77
          obtain rfl := Option.some.inj H
          have p262 : 0 ≤ (x93_5 : Int) := of_decide_eq_true (by first | (with_reducible assumption) | assumption)
          have q262 : x93_5 < (l0_10.length : Int) := of_decide_eq_true (by first | (with_reducible assumption) | assumption)
          obtain ⟨ad262, e262, hx262_0, hx262_1⟩ := at_T91 HR0_10.out x93_5 p262 q262
          cases e262
          replace hx262_0 := hcell HB.out hx262_0
          replace hx262_1 := hcell HB.out hx262_1
          replace p262 := eq_true p262
          replace q262 := eq_true q262
          go_wp2_with (first | ((with_reducible refine gate_dst (N := 4) rfl ?_); (try (refine gate_guard (by rfl) ?_; dsimp only)); refine box_event rfl (N := 4) rfl (cs := #[.int .i64 0, .string (⟨#[]⟩ : ByteArray)]) (t := 91) kG ?_; intro gb263 hg w78 hbox hb; have BK263 := As (hbox); have GW263 := As (gS hg (below_size (kB1 HB.out GE244.out))); have GE263 := As (gS hg (below_size (kB1 HB.out GE244.out))); replace HB := As (below_step (kB1 HB.out GE244.out) hb); have NB244_263 := As (gN hg (blk_lt (kb BK244.out))); have NB263_244 := As (gM hg (blk_lt (kb BK244.out))); replace BK244 := As (blk_below (kb BK244.out) hb); clear hb hbox hg; have hnb79 := NB263_244.out; have hnc79 := NB244_263.out; have hcz80_0 := cells_2 BK263.out; have hfz80_0 := fun j_ => blk_frozen BK263.out j_) | ((with_reducible refine gate_callee (f := 96) rfl ?_); refine goesL_ (some 103) rfl rfl Tryd.func96 (by kernel_rfl) rfl #[.int .i64 ((rd_T91 l0_10 x93_5).f0)] rfl kA ?_; (with_reducible refine (ipv6_extension.calls ((rd_T91 l0_10 x93_5).f0) true _ A74.out).mono ?_); rintro e w' ⟨rfl, ⟨nd, rfl⟩⟩; refine ⟨_, rfl, ?_⟩))
          go_ret
          exact ⟨kE, by exact kB2 HB.out GE244.out GE263.out⟩
         rw [if_neg c77] at H
         have c77b0 : decide (0 < x93_5) = false := decide_eq_false c77
         clear c77
         by_cases c81 : (((rd_T91 l0_10 x93_5).f1).size : Int) < 6
         ·rw [if_pos c81] at H
          have c81b0 : decide ((((rd_T91 l0_10 x93_5).f1).size : Int) < 6) = true := decide_eq_true c81
          have c81b1 : decide (((rd_T91 l0_10 x93_5).f1).size < 6) = true := decide_eq_true (by omega)
          clear c81
          obtain rfl := Option.some.inj H
          have p262 : 0 ≤ (x93_5 : Int) := of_decide_eq_true (by first | (with_reducible assumption) | assumption)
          have q262 : x93_5 < (l0_10.length : Int) := of_decide_eq_true (by first | (with_reducible assumption) | assumption)
          obtain ⟨ad262, e262, hx262_0, hx262_1⟩ := at_T91 HR0_10.out x93_5 p262 q262
          cases e262
          replace hx262_0 := hcell HB.out hx262_0
          replace hx262_1 := hcell HB.out hx262_1
          replace p262 := eq_true p262
          replace q262 := eq_true q262
          go_wp2_with (first | ((with_reducible refine gate_dst (N := 4) rfl ?_); (try (refine gate_guard (by rfl) ?_; dsimp only)); refine box_event rfl (N := 4) rfl (cs := #[.int .i64 0, .string (⟨#[]⟩ : ByteArray)]) (t := 91) kG ?_; intro gb263 hg w82 hbox hb; have BK263 := As (hbox); have GW263 := As (gS hg (below_size (kB1 HB.out GE244.out))); have GE263 := As (gS hg (below_size (kB1 HB.out GE244.out))); replace HB := As (below_step (kB1 HB.out GE244.out) hb); have NB244_263 := As (gN hg (blk_lt (kb BK244.out))); have NB263_244 := As (gM hg (blk_lt (kb BK244.out))); replace BK244 := As (blk_below (kb BK244.out) hb); clear hb hbox hg; have hnb83 := NB263_244.out; have hnc83 := NB244_263.out; have hcz84_0 := cells_2 BK263.out; have hfz84_0 := fun j_ => blk_frozen BK263.out j_) | ((with_reducible refine gate_callee (f := 96) rfl ?_); refine goesL_ (some 103) rfl rfl Tryd.func96 (by kernel_rfl) rfl #[.int .i64 ((rd_T91 l0_10 x93_5).f0)] rfl kA ?_; (with_reducible refine (ipv6_extension.calls ((rd_T91 l0_10 x93_5).f0) true _ A74.out).mono ?_); rintro e w' ⟨rfl, ⟨nd, rfl⟩⟩; refine ⟨_, rfl, ?_⟩))
          go_ret
          exact ⟨kE, by exact kB2 HB.out GE244.out GE263.out⟩
         rw [if_neg c81] at H
         have c81b0 : decide ((((rd_T91 l0_10 x93_5).f1).size : Int) < 6) = false := decide_eq_false c81
         have c81b1 : decide (((rd_T91 l0_10 x93_5).f1).size < 6) = false := decide_eq_false (by omega)
         clear c81
         by_cases c85 : (((rd_T91 l0_10 x93_5).f1).size : Int) > 2046
         ·rw [if_pos c85] at H
          have c85b0 : decide (2046 < (((rd_T91 l0_10 x93_5).f1).size : Int)) = true := decide_eq_true c85
          have c85b1 : decide (2046 < ((rd_T91 l0_10 x93_5).f1).size) = true := decide_eq_true (by omega)
          clear c85
          obtain rfl := Option.some.inj H
          have p262 : 0 ≤ (x93_5 : Int) := of_decide_eq_true (by first | (with_reducible assumption) | assumption)
          have q262 : x93_5 < (l0_10.length : Int) := of_decide_eq_true (by first | (with_reducible assumption) | assumption)
          obtain ⟨ad262, e262, hx262_0, hx262_1⟩ := at_T91 HR0_10.out x93_5 p262 q262
          cases e262
          replace hx262_0 := hcell HB.out hx262_0
          replace hx262_1 := hcell HB.out hx262_1
          replace p262 := eq_true p262
          replace q262 := eq_true q262
          go_wp2_with (first | ((with_reducible refine gate_dst (N := 4) rfl ?_); (try (refine gate_guard (by rfl) ?_; dsimp only)); refine box_event rfl (N := 4) rfl (cs := #[.int .i64 0, .string (⟨#[]⟩ : ByteArray)]) (t := 91) kG ?_; intro gb263 hg w86 hbox hb; have BK263 := As (hbox); have GW263 := As (gS hg (below_size (kB1 HB.out GE244.out))); have GE263 := As (gS hg (below_size (kB1 HB.out GE244.out))); replace HB := As (below_step (kB1 HB.out GE244.out) hb); have NB244_263 := As (gN hg (blk_lt (kb BK244.out))); have NB263_244 := As (gM hg (blk_lt (kb BK244.out))); replace BK244 := As (blk_below (kb BK244.out) hb); clear hb hbox hg; have hnb87 := NB263_244.out; have hnc87 := NB244_263.out; have hcz88_0 := cells_2 BK263.out; have hfz88_0 := fun j_ => blk_frozen BK263.out j_) | ((with_reducible refine gate_callee (f := 96) rfl ?_); refine goesL_ (some 103) rfl rfl Tryd.func96 (by kernel_rfl) rfl #[.int .i64 ((rd_T91 l0_10 x93_5).f0)] rfl kA ?_; (with_reducible refine (ipv6_extension.calls ((rd_T91 l0_10 x93_5).f0) true _ A74.out).mono ?_); rintro e w' ⟨rfl, ⟨nd, rfl⟩⟩; refine ⟨_, rfl, ?_⟩))
          go_ret
          exact ⟨kE, by exact kB2 HB.out GE244.out GE263.out⟩
         rw [if_neg c85] at H
         have c85b0 : decide (2046 < (((rd_T91 l0_10 x93_5).f1).size : Int)) = false := decide_eq_false c85
         have c85b1 : decide (2046 < ((rd_T91 l0_10 x93_5).f1).size) = false := decide_eq_false (by omega)
         clear c85
         by_cases c89 : ((((rd_T91 l0_10 x93_5).f1).size : Int) % 8) = 6
         ·rw [if_pos c89] at H
          have c89b0 : (((((rd_T91 l0_10 x93_5).f1).size : Int) % 8) == 6) = true := beq_iff_eq.mpr c89
          have c89b1 : (((((rd_T91 l0_10 x93_5).f1).size : Int) % 8) != 6) = false := bne_eq_false_iff_eq.mpr c89
          clear c89
          have H' := As H
          clear H
          have p262 : 0 ≤ (x93_5 : Int) := of_decide_eq_true (by first | (with_reducible assumption) | assumption)
          have q262 : x93_5 < (l0_10.length : Int) := of_decide_eq_true (by first | (with_reducible assumption) | assumption)
          obtain ⟨ad262, e262, hx262_0, hx262_1⟩ := at_T91 HR0_10.out x93_5 p262 q262
          cases e262
          replace hx262_0 := hcell HB.out hx262_0
          replace hx262_1 := hcell HB.out hx262_1
          replace p262 := eq_true p262
          replace q262 := eq_true q262
          go_wp2_with (first | ((with_reducible refine gate_dst (N := 4) rfl ?_); (try (refine gate_guard (by rfl) ?_; dsimp only)); refine box_event rfl (N := 4) rfl (cs := #[.int .i64 0, .string (⟨#[]⟩ : ByteArray)]) (t := 91) kG ?_; intro gb263 hg w90 hbox hb; have BK263 := As (hbox); have GW263 := As (gS hg (below_size (kB1 HB.out GE244.out))); have GE263 := As (gS hg (below_size (kB1 HB.out GE244.out))); replace HB := As (below_step (kB1 HB.out GE244.out) hb); have NB244_263 := As (gN hg (blk_lt (kb BK244.out))); have NB263_244 := As (gM hg (blk_lt (kb BK244.out))); replace BK244 := As (blk_below (kb BK244.out) hb); clear hb hbox hg; have hnb91 := NB263_244.out; have hnc91 := NB244_263.out; have hcz92_0 := cells_2 BK263.out; have hfz92_0 := fun j_ => blk_frozen BK263.out j_) | ((with_reducible refine gate_callee (f := 96) rfl ?_); refine goesL_ (some 103) rfl rfl Tryd.func96 (by kernel_rfl) rfl #[.int .i64 ((rd_T91 l0_10 x93_5).f0)] rfl kA ?_; (with_reducible refine (ipv6_extension.calls ((rd_T91 l0_10 x93_5).f0) true _ A74.out).mono ?_); rintro e w' ⟨rfl, ⟨nd, rfl⟩⟩; refine ⟨_, rfl, ?_⟩))
          go_roundg k5
          case measure => have := HJ1.out; have := HJ19.out; have := HJ29.out; have := HJ58.out; have := HK5.out; omega
          case rel => exact ⟨(wrap64 (x93_5 + 1)), kS, H', ⟨by have := HJ1.out; have := HJ19.out; have := HJ29.out; have := HJ58.out; have := HK5.out; omega⟩, ⟨by refine kb ?_; refine blk_far ?_ NB244_263.out _; refine kb ?_; refine blk_far ?_ NB244_263.out _; exact kb BK244.out⟩, ⟨kB2 HB.out GE244.out GE263.out⟩⟩
         rw [if_neg c89] at H
         have c89b0 : (((((rd_T91 l0_10 x93_5).f1).size : Int) % 8) == 6) = false := beq_eq_false_iff_ne.mpr c89
         have c89b1 : (((((rd_T91 l0_10 x93_5).f1).size : Int) % 8) != 6) = true := bne_iff_ne.mpr c89
         obtain rfl := Option.some.inj H
         have p262 : 0 ≤ (x93_5 : Int) := of_decide_eq_true (by first | (with_reducible assumption) | assumption)
         have q262 : x93_5 < (l0_10.length : Int) := of_decide_eq_true (by first | (with_reducible assumption) | assumption)
         obtain ⟨ad262, e262, hx262_0, hx262_1⟩ := at_T91 HR0_10.out x93_5 p262 q262
         cases e262
         replace hx262_0 := hcell HB.out hx262_0
         replace hx262_1 := hcell HB.out hx262_1
         replace p262 := eq_true p262
         replace q262 := eq_true q262
         go_wp2_with (first | ((with_reducible refine gate_dst (N := 4) rfl ?_); (try (refine gate_guard (by rfl) ?_; dsimp only)); refine box_event rfl (N := 4) rfl (cs := #[.int .i64 0, .string (⟨#[]⟩ : ByteArray)]) (t := 91) kG ?_; intro gb263 hg w93 hbox hb; have BK263 := As (hbox); have GW263 := As (gS hg (below_size (kB1 HB.out GE244.out))); have GE263 := As (gS hg (below_size (kB1 HB.out GE244.out))); replace HB := As (below_step (kB1 HB.out GE244.out) hb); have NB244_263 := As (gN hg (blk_lt (kb BK244.out))); have NB263_244 := As (gM hg (blk_lt (kb BK244.out))); replace BK244 := As (blk_below (kb BK244.out) hb); clear hb hbox hg; have hnb94 := NB263_244.out; have hnc94 := NB244_263.out; have hcz95_0 := cells_2 BK263.out; have hfz95_0 := fun j_ => blk_frozen BK263.out j_) | ((with_reducible refine gate_callee (f := 96) rfl ?_); refine goesL_ (some 103) rfl rfl Tryd.func96 (by kernel_rfl) rfl #[.int .i64 ((rd_T91 l0_10 x93_5).f0)] rfl kA ?_; (with_reducible refine (ipv6_extension.calls ((rd_T91 l0_10 x93_5).f0) true _ A74.out).mono ?_); rintro e w' ⟨rfl, ⟨nd, rfl⟩⟩; refine ⟨_, rfl, ?_⟩))
         go_ret
         exact ⟨kE, by exact kB2 HB.out GE244.out GE263.out⟩
        rw [if_neg c76] at H
        have c76b0 : (((rd_T91 l0_10 x93_5).f0) == 0) = false := beq_eq_false_iff_ne.mpr c76
        have c76b1 : (((rd_T91 l0_10 x93_5).f0) != 0) = true := bne_iff_ne.mpr c76
        by_cases c96 : (((rd_T91 l0_10 x93_5).f1).size : Int) < 6
        ·rw [if_pos c96] at H
         have c96b0 : decide ((((rd_T91 l0_10 x93_5).f1).size : Int) < 6) = true := decide_eq_true c96
         have c96b1 : decide (((rd_T91 l0_10 x93_5).f1).size < 6) = true := decide_eq_true (by omega)
         clear c96
         obtain rfl := Option.some.inj H
         have p262 : 0 ≤ (x93_5 : Int) := of_decide_eq_true (by first | (with_reducible assumption) | assumption)
         have q262 : x93_5 < (l0_10.length : Int) := of_decide_eq_true (by first | (with_reducible assumption) | assumption)
         obtain ⟨ad262, e262, hx262_0, hx262_1⟩ := at_T91 HR0_10.out x93_5 p262 q262
         cases e262
         replace hx262_0 := hcell HB.out hx262_0
         replace hx262_1 := hcell HB.out hx262_1
         replace p262 := eq_true p262
         replace q262 := eq_true q262
         go_wp2_with (first | ((with_reducible refine gate_dst (N := 4) rfl ?_); (try (refine gate_guard (by rfl) ?_; dsimp only)); refine box_event rfl (N := 4) rfl (cs := #[.int .i64 0, .string (⟨#[]⟩ : ByteArray)]) (t := 91) kG ?_; intro gb263 hg w97 hbox hb; have BK263 := As (hbox); have GW263 := As (gS hg (below_size (kB1 HB.out GE244.out))); have GE263 := As (gS hg (below_size (kB1 HB.out GE244.out))); replace HB := As (below_step (kB1 HB.out GE244.out) hb); have NB244_263 := As (gN hg (blk_lt (kb BK244.out))); have NB263_244 := As (gM hg (blk_lt (kb BK244.out))); replace BK244 := As (blk_below (kb BK244.out) hb); clear hb hbox hg; have hnb98 := NB263_244.out; have hnc98 := NB244_263.out; have hcz99_0 := cells_2 BK263.out; have hfz99_0 := fun j_ => blk_frozen BK263.out j_) | ((with_reducible refine gate_callee (f := 96) rfl ?_); refine goesL_ (some 103) rfl rfl Tryd.func96 (by kernel_rfl) rfl #[.int .i64 ((rd_T91 l0_10 x93_5).f0)] rfl kA ?_; (with_reducible refine (ipv6_extension.calls ((rd_T91 l0_10 x93_5).f0) true _ A74.out).mono ?_); rintro e w' ⟨rfl, ⟨nd, rfl⟩⟩; refine ⟨_, rfl, ?_⟩))
         go_ret
         exact ⟨kE, by exact kB2 HB.out GE244.out GE263.out⟩
        rw [if_neg c96] at H
        have c96b0 : decide ((((rd_T91 l0_10 x93_5).f1).size : Int) < 6) = false := decide_eq_false c96
        have c96b1 : decide (((rd_T91 l0_10 x93_5).f1).size < 6) = false := decide_eq_false (by omega)
        clear c96
        by_cases c100 : (((rd_T91 l0_10 x93_5).f1).size : Int) > 2046
        ·rw [if_pos c100] at H
         have c100b0 : decide (2046 < (((rd_T91 l0_10 x93_5).f1).size : Int)) = true := decide_eq_true c100
         have c100b1 : decide (2046 < ((rd_T91 l0_10 x93_5).f1).size) = true := decide_eq_true (by omega)
         clear c100
         obtain rfl := Option.some.inj H
         have p262 : 0 ≤ (x93_5 : Int) := of_decide_eq_true (by first | (with_reducible assumption) | assumption)
         have q262 : x93_5 < (l0_10.length : Int) := of_decide_eq_true (by first | (with_reducible assumption) | assumption)
         obtain ⟨ad262, e262, hx262_0, hx262_1⟩ := at_T91 HR0_10.out x93_5 p262 q262
         cases e262
         replace hx262_0 := hcell HB.out hx262_0
         replace hx262_1 := hcell HB.out hx262_1
         replace p262 := eq_true p262
         replace q262 := eq_true q262
         go_wp2_with (first | ((with_reducible refine gate_dst (N := 4) rfl ?_); (try (refine gate_guard (by rfl) ?_; dsimp only)); refine box_event rfl (N := 4) rfl (cs := #[.int .i64 0, .string (⟨#[]⟩ : ByteArray)]) (t := 91) kG ?_; intro gb263 hg w101 hbox hb; have BK263 := As (hbox); have GW263 := As (gS hg (below_size (kB1 HB.out GE244.out))); have GE263 := As (gS hg (below_size (kB1 HB.out GE244.out))); replace HB := As (below_step (kB1 HB.out GE244.out) hb); have NB244_263 := As (gN hg (blk_lt (kb BK244.out))); have NB263_244 := As (gM hg (blk_lt (kb BK244.out))); replace BK244 := As (blk_below (kb BK244.out) hb); clear hb hbox hg; have hnb102 := NB263_244.out; have hnc102 := NB244_263.out; have hcz103_0 := cells_2 BK263.out; have hfz103_0 := fun j_ => blk_frozen BK263.out j_) | ((with_reducible refine gate_callee (f := 96) rfl ?_); refine goesL_ (some 103) rfl rfl Tryd.func96 (by kernel_rfl) rfl #[.int .i64 ((rd_T91 l0_10 x93_5).f0)] rfl kA ?_; (with_reducible refine (ipv6_extension.calls ((rd_T91 l0_10 x93_5).f0) true _ A74.out).mono ?_); rintro e w' ⟨rfl, ⟨nd, rfl⟩⟩; refine ⟨_, rfl, ?_⟩))
         go_ret
         exact ⟨kE, by exact kB2 HB.out GE244.out GE263.out⟩
        rw [if_neg c100] at H
        have c100b0 : decide (2046 < (((rd_T91 l0_10 x93_5).f1).size : Int)) = false := decide_eq_false c100
        have c100b1 : decide (2046 < ((rd_T91 l0_10 x93_5).f1).size) = false := decide_eq_false (by omega)
        clear c100
        by_cases c104 : ((((rd_T91 l0_10 x93_5).f1).size : Int) % 8) = 6
        ·rw [if_pos c104] at H
         have c104b0 : (((((rd_T91 l0_10 x93_5).f1).size : Int) % 8) == 6) = true := beq_iff_eq.mpr c104
         have c104b1 : (((((rd_T91 l0_10 x93_5).f1).size : Int) % 8) != 6) = false := bne_eq_false_iff_eq.mpr c104
         clear c104
         have H' := As H
         clear H
         have p262 : 0 ≤ (x93_5 : Int) := of_decide_eq_true (by first | (with_reducible assumption) | assumption)
         have q262 : x93_5 < (l0_10.length : Int) := of_decide_eq_true (by first | (with_reducible assumption) | assumption)
         obtain ⟨ad262, e262, hx262_0, hx262_1⟩ := at_T91 HR0_10.out x93_5 p262 q262
         cases e262
         replace hx262_0 := hcell HB.out hx262_0
         replace hx262_1 := hcell HB.out hx262_1
         replace p262 := eq_true p262
         replace q262 := eq_true q262
         go_wp2_with (first | ((with_reducible refine gate_dst (N := 4) rfl ?_); (try (refine gate_guard (by rfl) ?_; dsimp only)); refine box_event rfl (N := 4) rfl (cs := #[.int .i64 0, .string (⟨#[]⟩ : ByteArray)]) (t := 91) kG ?_; intro gb263 hg w105 hbox hb; have BK263 := As (hbox); have GW263 := As (gS hg (below_size (kB1 HB.out GE244.out))); have GE263 := As (gS hg (below_size (kB1 HB.out GE244.out))); replace HB := As (below_step (kB1 HB.out GE244.out) hb); have NB244_263 := As (gN hg (blk_lt (kb BK244.out))); have NB263_244 := As (gM hg (blk_lt (kb BK244.out))); replace BK244 := As (blk_below (kb BK244.out) hb); clear hb hbox hg; have hnb106 := NB263_244.out; have hnc106 := NB244_263.out; have hcz107_0 := cells_2 BK263.out; have hfz107_0 := fun j_ => blk_frozen BK263.out j_) | ((with_reducible refine gate_callee (f := 96) rfl ?_); refine goesL_ (some 103) rfl rfl Tryd.func96 (by kernel_rfl) rfl #[.int .i64 ((rd_T91 l0_10 x93_5).f0)] rfl kA ?_; (with_reducible refine (ipv6_extension.calls ((rd_T91 l0_10 x93_5).f0) true _ A74.out).mono ?_); rintro e w' ⟨rfl, ⟨nd, rfl⟩⟩; refine ⟨_, rfl, ?_⟩))
         go_roundg k5
         case measure => have := HJ1.out; have := HJ19.out; have := HJ29.out; have := HJ58.out; have := HK5.out; omega
         case rel => exact ⟨(wrap64 (x93_5 + 1)), kS, H', ⟨by have := HJ1.out; have := HJ19.out; have := HJ29.out; have := HJ58.out; have := HK5.out; omega⟩, ⟨by refine kb ?_; refine blk_far ?_ NB244_263.out _; refine kb ?_; refine blk_far ?_ NB244_263.out _; exact kb BK244.out⟩, ⟨kB2 HB.out GE244.out GE263.out⟩⟩
        rw [if_neg c104] at H
        have c104b0 : (((((rd_T91 l0_10 x93_5).f1).size : Int) % 8) == 6) = false := beq_eq_false_iff_ne.mpr c104
        have c104b1 : (((((rd_T91 l0_10 x93_5).f1).size : Int) % 8) != 6) = true := bne_iff_ne.mpr c104
        obtain rfl := Option.some.inj H
        have p262 : 0 ≤ (x93_5 : Int) := of_decide_eq_true (by first | (with_reducible assumption) | assumption)
        have q262 : x93_5 < (l0_10.length : Int) := of_decide_eq_true (by first | (with_reducible assumption) | assumption)
        obtain ⟨ad262, e262, hx262_0, hx262_1⟩ := at_T91 HR0_10.out x93_5 p262 q262
        cases e262
        replace hx262_0 := hcell HB.out hx262_0
        replace hx262_1 := hcell HB.out hx262_1
        replace p262 := eq_true p262
        replace q262 := eq_true q262
        go_wp2_with (first | ((with_reducible refine gate_dst (N := 4) rfl ?_); (try (refine gate_guard (by rfl) ?_; dsimp only)); refine box_event rfl (N := 4) rfl (cs := #[.int .i64 0, .string (⟨#[]⟩ : ByteArray)]) (t := 91) kG ?_; intro gb263 hg w108 hbox hb; have BK263 := As (hbox); have GW263 := As (gS hg (below_size (kB1 HB.out GE244.out))); have GE263 := As (gS hg (below_size (kB1 HB.out GE244.out))); replace HB := As (below_step (kB1 HB.out GE244.out) hb); have NB244_263 := As (gN hg (blk_lt (kb BK244.out))); have NB263_244 := As (gM hg (blk_lt (kb BK244.out))); replace BK244 := As (blk_below (kb BK244.out) hb); clear hb hbox hg; have hnb109 := NB263_244.out; have hnc109 := NB244_263.out; have hcz110_0 := cells_2 BK263.out; have hfz110_0 := fun j_ => blk_frozen BK263.out j_) | ((with_reducible refine gate_callee (f := 96) rfl ?_); refine goesL_ (some 103) rfl rfl Tryd.func96 (by kernel_rfl) rfl #[.int .i64 ((rd_T91 l0_10 x93_5).f0)] rfl kA ?_; (with_reducible refine (ipv6_extension.calls ((rd_T91 l0_10 x93_5).f0) true _ A74.out).mono ?_); rintro e w' ⟨rfl, ⟨nd, rfl⟩⟩; refine ⟨_, rfl, ?_⟩))
        go_ret
        exact ⟨kE, by exact kB2 HB.out GE244.out GE263.out⟩
       replace c75 := Bool.eq_false_iff.mpr c75
       subst c75
       rw [if_neg (show ¬ (false = true) by decide)] at H
       obtain rfl := Option.some.inj H
       have p262 : 0 ≤ (x93_5 : Int) := of_decide_eq_true (by first | (with_reducible assumption) | assumption)
       have q262 : x93_5 < (l0_10.length : Int) := of_decide_eq_true (by first | (with_reducible assumption) | assumption)
       obtain ⟨ad262, e262, hx262_0, hx262_1⟩ := at_T91 HR0_10.out x93_5 p262 q262
       cases e262
       replace hx262_0 := hcell HB.out hx262_0
       replace hx262_1 := hcell HB.out hx262_1
       replace p262 := eq_true p262
       replace q262 := eq_true q262
       go_wp2_with (first | ((with_reducible refine gate_dst (N := 4) rfl ?_); (try (refine gate_guard (by rfl) ?_; dsimp only)); refine box_event rfl (N := 4) rfl (cs := #[.int .i64 0, .string (⟨#[]⟩ : ByteArray)]) (t := 91) kG ?_; intro gb263 hg w111 hbox hb; have BK263 := As (hbox); have GW263 := As (gS hg (below_size (kB1 HB.out GE244.out))); have GE263 := As (gS hg (below_size (kB1 HB.out GE244.out))); replace HB := As (below_step (kB1 HB.out GE244.out) hb); have NB244_263 := As (gN hg (blk_lt (kb BK244.out))); have NB263_244 := As (gM hg (blk_lt (kb BK244.out))); replace BK244 := As (blk_below (kb BK244.out) hb); clear hb hbox hg; have hnb112 := NB263_244.out; have hnc112 := NB244_263.out; have hcz113_0 := cells_2 BK263.out; have hfz113_0 := fun j_ => blk_frozen BK263.out j_) | ((with_reducible refine gate_callee (f := 96) rfl ?_); refine goesL_ (some 103) rfl rfl Tryd.func96 (by kernel_rfl) rfl #[.int .i64 ((rd_T91 l0_10 x93_5).f0)] rfl kA ?_; (with_reducible refine (ipv6_extension.calls ((rd_T91 l0_10 x93_5).f0) false _ A74.out).mono ?_); rintro e w' ⟨rfl, ⟨nd, rfl⟩⟩; refine ⟨_, rfl, ?_⟩))
       go_ret
       exact ⟨kE, by exact kB2 HB.out GE244.out GE263.out⟩
      rw [if_neg c71] at H
      have c71b0 : decide (x93_5 < (l0_10.length : Int)) = false := decide_eq_false c71
      clear c71
      obtain rfl := Option.some.inj H
      go_wp2
      go_ret
      exact ⟨kE, by exact kB1 HB.out GE244.out⟩

end Go.Proofs.YtocobalkikkhlaaDoor.X
-- short
-- short2
