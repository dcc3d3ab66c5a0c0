/- Functions and their walks, printed by xprint.py. -/
import Derived.Test.YtafjmciojeondaaX0
import Derived.Test.YtafjmciojeondaaX5
namespace Go.Proofs.Ytafjmciojeondaa.X
open Go.RowKit Go.Proofs.YtafjmciojeondaaW.PrintWords Go.Proofs.YtafjmciojeondaaW.PrintLast Go.Proofs.YtafjmciojeondaaW.PrintMore
attribute [local go_sem] max2_int min2_int max_two min_two max_three min_three max_four min_four   -- for this text's walks alone
set_option linter.unusedVariables false
set_option linter.unusedSimpArgs false

/-! ### capture_Write: function 16 -/
mutual
def capture_Write.l0 : Nat → List (S33) → List Int → List (S50) → Int → Int → Option (ByteArray × Int)
 | 0, _, _, _, _, _ => none
 | k + 1, x0, x5, x22, x23, x24 => if x24 < x23 then (if 0 ≤ x24 then (if x24 < (x22.length : Int) then ((field_PutLittle.f k ((rd_T50 x22 x24).f0) ((rd_T50 x22 x24).f1)).bind fun t263 => (if x5.length + t263.size < 140737488355328 then (capture_Write.l0 k x0 (x5 ++ bytesOf t263) x22 x23 (wrap64 (x24 + 1))) else (none))) else (none)) else (none)) else (capture_Write.l1 k x0 x5 x0 (x0.length : Int) 0)
def capture_Write.l1 : Nat → List (S33) → List Int → List (S33) → Int → Int → Option (ByteArray × Int)
 | 0, _, _, _, _, _ => none
 | k + 1, x0, x5, x37, x38, x39 => if x39 < x38 then (if 0 ≤ x39 then (if x39 < (x37.length : Int) then (if (((rd_T33 x37 x39).f2).size : Int) > 4096 then (some ((⟨#[]⟩ : ByteArray), 3)) else (if ((rd_T33 x37 x39).f0) < 0 then (capture_Write.j2 k x0 x5 x39 x37 x38 x39 true ((rd_T33 x37 x39).f0) ((rd_T33 x37 x39).f1) ((rd_T33 x37 x39).f2)) else (if ((rd_T33 x37 x39).f0) > 1099511627776 then (capture_Write.j2 k x0 x5 x39 x37 x38 x39 true ((rd_T33 x37 x39).f0) ((rd_T33 x37 x39).f1) ((rd_T33 x37 x39).f2)) else (if ((rd_T33 x37 x39).f1) < (((rd_T33 x37 x39).f2).size : Int) then (capture_Write.j2 k x0 x5 x39 x37 x38 x39 true ((rd_T33 x37 x39).f0) ((rd_T33 x37 x39).f1) ((rd_T33 x37 x39).f2)) else (capture_Write.j2 k x0 x5 x39 x37 x38 x39 (decide (((rd_T33 x37 x39).f1) > 65535)) ((rd_T33 x37 x39).f0) ((rd_T33 x37 x39).f1) ((rd_T33 x37 x39).f2)))))) else (none)) else (none)) else (some (strOfNums x5, 0))
def capture_Write.j3 : Nat → List (S33) → List Int → List (S33) → Int → Int → Int → Int → ByteArray → Option (ByteArray × Int)
 | 0, _, _, _, _, _, _, _, _ => none
 | k + 1, x0, x5, x37, x38, x39, x269000, x269001, x269002 => (some (([wrap64 (Int.tdiv x269000 1000), wrap64 ((Int.tmod x269000 1000) * 1000), (x269002.size : Int), x269001] : List Int) : List Int)).bind fun y270 => (capture_Write.l2 k x0 x5 x37 x38 x39 y270 (y270.length : Int) 0 x269000 x269001 x269002)
def capture_Write.l2 : Nat → List (S33) → List Int → List (S33) → Int → Int → List Int → Int → Int → Int → Int → ByteArray → Option (ByteArray × Int)
 | 0, _, _, _, _, _, _, _, _, _, _, _ => none
 | k + 1, x0, x5, x37, x38, x39, x97, x98, x99, x269000, x269001, x269002 => if x99 < x98 then (if 0 ≤ x99 then (if x99 < (x97.length : Int) then ((field_PutLittle.f k (rd x97 x99) 4).bind fun t274 => (if x5.length + t274.size < 140737488355328 then (capture_Write.l2 k x0 (x5 ++ bytesOf t274) x37 x38 x39 x97 x98 (wrap64 (x99 + 1)) x269000 x269001 x269002) else (none))) else (none)) else (none)) else (if x5.length + x269002.size < 140737488355328 then (capture_Write.l1 k x0 (x5 ++ bytesOf x269002) x37 x38 (wrap64 (x39 + 1))) else (none))
def capture_Write.j2 : Nat → List (S33) → List Int → Int → List (S33) → Int → Int → Bool → Int → Int → ByteArray → Option (ByteArray × Int)
 | 0, _, _, _, _, _, _, _, _, _, _ => none
 | k + 1, x0, x5, x8, x37, x38, x39, x49, x269000, x269001, x269002 => if x49 = true then (some ((⟨#[]⟩ : ByteArray), 4)) else (if x8 > 0 then (if 0 ≤ (wrap64 (x8 - 1)) then (if (wrap64 (x8 - 1)) < (x0.length : Int) then (if x269000 < ((rd_T33 x0 (wrap64 (x8 - 1))).f0) then (some ((⟨#[]⟩ : ByteArray), 12)) else (capture_Write.j3 k x0 x5 x37 x38 x39 x269000 x269001 x269002)) else (none)) else (none)) else (capture_Write.j3 k x0 x5 x37 x38 x39 x269000 x269001 x269002))
end
def capture_Write.f (k : Nat) (l0 : List (S33)) : Option (ByteArray × Int) := if (l0.length : Int) > 2000 then (some ((⟨#[]⟩ : ByteArray), 3)) else ((some (([(⟨2712847316, 4⟩ : S50), (⟨2, 2⟩ : S50), (⟨4, 2⟩ : S50), (⟨0, 4⟩ : S50), (⟨0, 4⟩ : S50), (⟨4096, 4⟩ : S50), (⟨1, 4⟩ : S50)] : List (S50)) : List (S50))).bind fun y258 => (capture_Write.l0 k l0 ([] : List Int) y258 (y258.length : Int) 0))
theorem capture_Write.mono_l : ∀ k, (∀ y0 y1 y2 y3 y4, LeO (capture_Write.l0 k y0 y1 y2 y3 y4) (capture_Write.l0 (k + 1) y0 y1 y2 y3 y4)) ∧ (∀ y0 y1 y2 y3 y4, LeO (capture_Write.l1 k y0 y1 y2 y3 y4) (capture_Write.l1 (k + 1) y0 y1 y2 y3 y4)) ∧ (∀ y0 y1 y2 y3 y4 y5 y6 y7, LeO (capture_Write.j3 k y0 y1 y2 y3 y4 y5 y6 y7) (capture_Write.j3 (k + 1) y0 y1 y2 y3 y4 y5 y6 y7)) ∧ (∀ y0 y1 y2 y3 y4 y5 y6 y7 y8 y9 y10, LeO (capture_Write.l2 k y0 y1 y2 y3 y4 y5 y6 y7 y8 y9 y10) (capture_Write.l2 (k + 1) y0 y1 y2 y3 y4 y5 y6 y7 y8 y9 y10)) ∧ (∀ y0 y1 y2 y3 y4 y5 y6 y7 y8 y9, LeO (capture_Write.j2 k y0 y1 y2 y3 y4 y5 y6 y7 y8 y9) (capture_Write.j2 (k + 1) y0 y1 y2 y3 y4 y5 y6 y7 y8 y9))
 | 0 => ⟨fun _ _ _ _ _ r h => by simp [capture_Write.l0] at h, fun _ _ _ _ _ r h => by simp [capture_Write.l1] at h, fun _ _ _ _ _ _ _ _ r h => by simp [capture_Write.j3] at h, fun _ _ _ _ _ _ _ _ _ _ _ r h => by simp [capture_Write.l2] at h, fun _ _ _ _ _ _ _ _ _ _ r h => by simp [capture_Write.j2] at h⟩
 | k + 1 => by
  obtain ⟨ih0, ih1, ih2, ih3, ih4⟩ := capture_Write.mono_l k
  refine ⟨?_, ?_, ?_, ?_, ?_⟩
  ·intro y0 y1 y2 y3 y4
   unfold capture_Write.l0
   repeat' first | with_reducible first | apply ih0 | apply ih1 | apply ih2 | apply ih3 | apply ih4 | apply field_PutLittle.mono | apply LeO.refl | apply LeO.none | refine LeO.ite ?_ ?_ | refine LeO.bind ?_ (fun _ => ?_)
  ·intro y0 y1 y2 y3 y4
   unfold capture_Write.l1
   repeat' first | with_reducible first | apply ih0 | apply ih1 | apply ih2 | apply ih3 | apply ih4 | apply field_PutLittle.mono | apply LeO.refl | apply LeO.none | refine LeO.ite ?_ ?_ | refine LeO.bind ?_ (fun _ => ?_)
  ·intro y0 y1 y2 y3 y4 y5 y6 y7
   unfold capture_Write.j3
   repeat' first | with_reducible first | apply ih0 | apply ih1 | apply ih2 | apply ih3 | apply ih4 | apply field_PutLittle.mono | apply LeO.refl | apply LeO.none | refine LeO.ite ?_ ?_ | refine LeO.bind ?_ (fun _ => ?_)
  ·intro y0 y1 y2 y3 y4 y5 y6 y7 y8 y9 y10
   unfold capture_Write.l2
   repeat' first | with_reducible first | apply ih0 | apply ih1 | apply ih2 | apply ih3 | apply ih4 | apply field_PutLittle.mono | apply LeO.refl | apply LeO.none | refine LeO.ite ?_ ?_ | refine LeO.bind ?_ (fun _ => ?_)
  intro y0 y1 y2 y3 y4 y5 y6 y7 y8 y9
  unfold capture_Write.j2
  repeat' first | with_reducible first | apply ih0 | apply ih1 | apply ih2 | apply ih3 | apply ih4 | apply field_PutLittle.mono | apply LeO.refl | apply LeO.none | refine LeO.ite ?_ ?_ | refine LeO.bind ?_ (fun _ => ?_)
theorem capture_Write.mono : ∀ a0 k, LeO (capture_Write.f k a0) (capture_Write.f (k + 1) a0) := by
 intro a0 k
 obtain ⟨ih0, ih1, ih2, ih3, ih4⟩ := capture_Write.mono_l k
 unfold capture_Write.f
 repeat' first | with_reducible first | apply ih0 | apply ih1 | apply ih2 | apply ih3 | apply ih4 | apply field_PutLittle.mono | apply LeO.refl | apply LeO.none | refine LeO.ite ?_ ?_ | refine LeO.bind ?_ (fun _ => ?_)
set_option maxHeartbeats 8000000 in
set_option maxRecDepth 100000 in
theorem capture_Write.calls (k : Nat) (A0 : Option Addr) (c0 : Nat) (l0 : List (S33)) (r1 : ByteArray) (r2 : Int) (w : World) (hr0 : Kd.C k33 w A0 l0.length l0) (hc0 : l0.length ≤ c0) (h : capture_Write.f k l0 = some (r1, r2)) :
  Calls Try.prog 16 #[.slice A0 l0.length c0] w fun e w' => e = .returned (.tuple #[.string r1, .int .i64 r2]) ∧ Below w.heap.size w w' := by
 have hu50 := Try.underlying50
 have hu33 := Try.underlying33
 have HR0 := As hr0
 have HC0 := As hc0
 clear hr0 hc0
 have HB := As (Below.refl w.heap.size w)
 have H : (if (l0.length : Int) > 2000 then (some ((⟨#[]⟩ : ByteArray), 3)) else ((some (([(⟨2712847316, 4⟩ : S50), (⟨2, 2⟩ : S50), (⟨4, 2⟩ : S50), (⟨0, 4⟩ : S50), (⟨0, 4⟩ : S50), (⟨4096, 4⟩ : S50), (⟨1, 4⟩ : S50)] : List (S50)) : List (S50))).bind fun y258 => (capture_Write.l0 k l0 ([] : List Int) y258 (y258.length : Int) 0))) = some (r1, r2) := h
 clear h
 by_cases c2 : (l0.length : Int) > 2000
 ·rw [if_pos c2] at H
  have c2b0 : decide (2000 < (l0.length : Int)) = true := decide_eq_true c2
  have c2b1 : decide (2000 < l0.length) = true := decide_eq_true (by omega)
  clear c2
  simp only [Option.some.injEq, Prod.mk.injEq] at H
  obtain ⟨rfl, rfl⟩ := H
  go_enter Try.func16, Try.ntmps16
  go_wp2
  repeat (go_quiet (fail); try go_wp2)
  go_ret2
  exact ⟨kE, by exact kB HB.out⟩
 rw [if_neg c2] at H
 have c2b0 : decide (2000 < (l0.length : Int)) = false := decide_eq_false c2
 have c2b1 : decide (2000 < l0.length) = false := decide_eq_false (by omega)
 clear c2
 obtain ⟨y258, hy258⟩ : ∃ y_ : List (S50), y_ = (([(⟨2712847316, 4⟩ : S50), (⟨2, 2⟩ : S50), (⟨4, 2⟩ : S50), (⟨0, 4⟩ : S50), (⟨0, 4⟩ : S50), (⟨4096, 4⟩ : S50), (⟨1, 4⟩ : S50)] : List (S50))) := ⟨_, rfl⟩
 replace H : (capture_Write.l0 k l0 ([] : List Int) y258 (y258.length : Int) 0) = some (r1, r2) := by first | (rw [hy258]; with_reducible exact H) | (have H2_ := (Option.bind_some _ _).symm.trans H; rw [hy258]; with_reducible exact H2_) | (have H2_ := (Option.bind_some _ _).symm.trans H; with_reducible exact H2_) | with_reducible exact H | (rw [hy258]; exact H) | exact H
 have Ny258 := As hy258
 clear hy258
 have H' := As H
 clear H
 go_enter Try.func16, Try.ntmps16
 go_wp2_with (first | ((with_reducible refine gate_dst (N := 22) rfl ?_); (try (refine gate_guard (by rfl) ?_; dsimp only)); refine Kd.R_lit k50 _ 50 rfl (N := 22) rfl (xs := ([(⟨2712847316, 4⟩ : S50), (⟨2, 2⟩ : S50), (⟨4, 2⟩ : S50), (⟨0, 4⟩ : S50), (⟨0, 4⟩ : S50), (⟨4096, 4⟩ : S50), (⟨1, 4⟩ : S50)] : List (S50))) (inner := [.int .i64 2712847316, .int .i64 4, .int .i64 2, .int .i64 2, .int .i64 4, .int .i64 2, .int .i64 0, .int .i64 4, .int .i64 0, .int .i64 4, .int .i64 4096, .int .i64 4, .int .i64 1, .int .i64 4]) (ok := fun _ => True) (okp := fun _ => True) kG ?hp (fun _ hk => hk) trivial (Below.refl _ _) (Nat.le_refl _) (by simp) ?_; (case hp => exact (Reps.c2 (show Kd.M k50 _ _ _ (⟨2712847316, 4⟩ : S50) [.int .i64 2712847316, .int .i64 4] from (k50_mkM _ _ _ (⟨2712847316, 4⟩ : S50) )) (Reps.c2 (show Kd.M k50 _ _ _ (⟨2, 2⟩ : S50) [.int .i64 2, .int .i64 2] from (k50_mkM _ _ _ (⟨2, 2⟩ : S50) )) (Reps.c2 (show Kd.M k50 _ _ _ (⟨4, 2⟩ : S50) [.int .i64 4, .int .i64 2] from (k50_mkM _ _ _ (⟨4, 2⟩ : S50) )) (Reps.c2 (show Kd.M k50 _ _ _ (⟨0, 4⟩ : S50) [.int .i64 0, .int .i64 4] from (k50_mkM _ _ _ (⟨0, 4⟩ : S50) )) (Reps.c2 (show Kd.M k50 _ _ _ (⟨0, 4⟩ : S50) [.int .i64 0, .int .i64 4] from (k50_mkM _ _ _ (⟨0, 4⟩ : S50) )) (Reps.c2 (show Kd.M k50 _ _ _ (⟨4096, 4⟩ : S50) [.int .i64 4096, .int .i64 4] from (k50_mkM _ _ _ (⟨4096, 4⟩ : S50) )) (Reps.c2 (show Kd.M k50 _ _ _ (⟨1, 4⟩ : S50) [.int .i64 1, .int .i64 4] from (k50_mkM _ _ _ (⟨1, 4⟩ : S50) )) (Reps.none _ _))))))))); intro v259 w3 ho4 hb hg_ hnew_; clear hg_ hnew_; (first | rw [← Ny258.out] at ho4 | (simp only [Int.reduceToNat] at ho4; rw [← Ny258.out] at ho4)); have HO260 := As (Kd.R_lower ho4 (below_size (kB HB.out))); replace HB := As (below_step (kB HB.out) hb); clear hb ho4; obtain ⟨Ao5, co5, eo5⟩ := Kd.R_slice HO260.out; subst eo5))
 repeat (go_quiet (first | ((with_reducible refine gate_dst (N := 22) rfl ?_); (try (refine gate_guard (by rfl) ?_; dsimp only)); refine Kd.R_lit k50 _ 50 rfl (N := 22) rfl (xs := ([(⟨2712847316, 4⟩ : S50), (⟨2, 2⟩ : S50), (⟨4, 2⟩ : S50), (⟨0, 4⟩ : S50), (⟨0, 4⟩ : S50), (⟨4096, 4⟩ : S50), (⟨1, 4⟩ : S50)] : List (S50))) (inner := [.int .i64 2712847316, .int .i64 4, .int .i64 2, .int .i64 2, .int .i64 4, .int .i64 2, .int .i64 0, .int .i64 4, .int .i64 0, .int .i64 4, .int .i64 4096, .int .i64 4, .int .i64 1, .int .i64 4]) (ok := fun _ => True) (okp := fun _ => True) kG ?hp (fun _ hk => hk) trivial (Below.refl _ _) (Nat.le_refl _) (by simp) ?_; (case hp => exact (Reps.c2 (show Kd.M k50 _ _ _ (⟨2712847316, 4⟩ : S50) [.int .i64 2712847316, .int .i64 4] from (k50_mkM _ _ _ (⟨2712847316, 4⟩ : S50) )) (Reps.c2 (show Kd.M k50 _ _ _ (⟨2, 2⟩ : S50) [.int .i64 2, .int .i64 2] from (k50_mkM _ _ _ (⟨2, 2⟩ : S50) )) (Reps.c2 (show Kd.M k50 _ _ _ (⟨4, 2⟩ : S50) [.int .i64 4, .int .i64 2] from (k50_mkM _ _ _ (⟨4, 2⟩ : S50) )) (Reps.c2 (show Kd.M k50 _ _ _ (⟨0, 4⟩ : S50) [.int .i64 0, .int .i64 4] from (k50_mkM _ _ _ (⟨0, 4⟩ : S50) )) (Reps.c2 (show Kd.M k50 _ _ _ (⟨0, 4⟩ : S50) [.int .i64 0, .int .i64 4] from (k50_mkM _ _ _ (⟨0, 4⟩ : S50) )) (Reps.c2 (show Kd.M k50 _ _ _ (⟨4096, 4⟩ : S50) [.int .i64 4096, .int .i64 4] from (k50_mkM _ _ _ (⟨4096, 4⟩ : S50) )) (Reps.c2 (show Kd.M k50 _ _ _ (⟨1, 4⟩ : S50) [.int .i64 1, .int .i64 4] from (k50_mkM _ _ _ (⟨1, 4⟩ : S50) )) (Reps.none _ _))))))))); intro v259 w3 ho4 hb hg_ hnew_; clear hg_ hnew_; (first | rw [← Ny258.out] at ho4 | (simp only [Int.reduceToNat] at ho4; rw [← Ny258.out] at ho4)); have HO260 := As (Kd.R_lower ho4 (below_size (kB HB.out))); replace HB := As (below_step (kB HB.out) hb); clear hb ho4; obtain ⟨Ao5, co5, eo5⟩ := Kd.R_slice HO260.out; subst eo5)); try go_wp2_with (first | ((with_reducible refine gate_dst (N := 22) rfl ?_); (try (refine gate_guard (by rfl) ?_; dsimp only)); refine Kd.R_lit k50 _ 50 rfl (N := 22) rfl (xs := ([(⟨2712847316, 4⟩ : S50), (⟨2, 2⟩ : S50), (⟨4, 2⟩ : S50), (⟨0, 4⟩ : S50), (⟨0, 4⟩ : S50), (⟨4096, 4⟩ : S50), (⟨1, 4⟩ : S50)] : List (S50))) (inner := [.int .i64 2712847316, .int .i64 4, .int .i64 2, .int .i64 2, .int .i64 4, .int .i64 2, .int .i64 0, .int .i64 4, .int .i64 0, .int .i64 4, .int .i64 4096, .int .i64 4, .int .i64 1, .int .i64 4]) (ok := fun _ => True) (okp := fun _ => True) kG ?hp (fun _ hk => hk) trivial (Below.refl _ _) (Nat.le_refl _) (by simp) ?_; (case hp => exact (Reps.c2 (show Kd.M k50 _ _ _ (⟨2712847316, 4⟩ : S50) [.int .i64 2712847316, .int .i64 4] from (k50_mkM _ _ _ (⟨2712847316, 4⟩ : S50) )) (Reps.c2 (show Kd.M k50 _ _ _ (⟨2, 2⟩ : S50) [.int .i64 2, .int .i64 2] from (k50_mkM _ _ _ (⟨2, 2⟩ : S50) )) (Reps.c2 (show Kd.M k50 _ _ _ (⟨4, 2⟩ : S50) [.int .i64 4, .int .i64 2] from (k50_mkM _ _ _ (⟨4, 2⟩ : S50) )) (Reps.c2 (show Kd.M k50 _ _ _ (⟨0, 4⟩ : S50) [.int .i64 0, .int .i64 4] from (k50_mkM _ _ _ (⟨0, 4⟩ : S50) )) (Reps.c2 (show Kd.M k50 _ _ _ (⟨0, 4⟩ : S50) [.int .i64 0, .int .i64 4] from (k50_mkM _ _ _ (⟨0, 4⟩ : S50) )) (Reps.c2 (show Kd.M k50 _ _ _ (⟨4096, 4⟩ : S50) [.int .i64 4096, .int .i64 4] from (k50_mkM _ _ _ (⟨4096, 4⟩ : S50) )) (Reps.c2 (show Kd.M k50 _ _ _ (⟨1, 4⟩ : S50) [.int .i64 1, .int .i64 4] from (k50_mkM _ _ _ (⟨1, 4⟩ : S50) )) (Reps.none _ _))))))))); intro v259 w3 ho4 hb hg_ hnew_; clear hg_ hnew_; (first | rw [← Ny258.out] at ho4 | (simp only [Int.reduceToNat] at ho4; rw [← Ny258.out] at ho4)); have HO260 := As (Kd.R_lower ho4 (below_size (kB HB.out))); replace HB := As (below_step (kB HB.out) hb); clear hb ho4; obtain ⟨Ao5, co5, eo5⟩ := Kd.R_slice HO260.out; subst eo5)))
 go_loopg [5, 24] k (fun kq v5 v24 w' => ∃ (x5_1 : List Int) (x24_1 : Int), v24 = .int .i64 x24_1 ∧ Aside0 (capture_Write.l0 kq l0 x5_1 y258 (y258.length : Int) x24_1 = some (r1, r2)) ∧ Aside0 (kq ≤ k) ∧ Aside0 (Kd.R (Kd.int .u8) 5 w' w.heap.size (fun _ => True) v5 x5_1) ∧ Aside0 (Kd.R k50 50 w' w.heap.size (fun _ => True) (.slice Ao5 y258.length co5) y258) ∧ Aside0 (Below w.heap.size w w'))
 case atStart => exact ⟨(([] : List Int)), (0), kS, H', ⟨Nat.le_refl _⟩, ⟨by first | exact Kd.R_nil _ _ _ _ _ | exact Kd.N_nil _ _ _ _ _ | exact Kd.V_nil _ _ _ _ _ | exact Kd.Q_nil _ _ _ _ _ | exact Kd.S_nil _ _ _ _ _⟩, ⟨by (with_reducible repeat (first | apply Kd.R_alloc | apply Kd.R_drewN | apply Kd.R_drew)); exact HO260.out⟩, ⟨kB HB.out⟩⟩
 clear H'
 try clear c2
 try clear c2b0
 try clear c2b1
 obtain ⟨x5_1, x24_1, rfl, HA, HK1, HO_5, HO_22, HB⟩ := hrel
 cases gk with
 | zero => exact absurd HA.out (by simp [capture_Write.l0])
 | succ k1 =>
  have H := HA.out
  clear HA
  simp only [capture_Write.l0] at H
  by_cases c6 : x24_1 < (y258.length : Int)
  ·rw [if_pos c6] at H
   have c6b0 : decide (x24_1 < (y258.length : Int)) = true := decide_eq_true c6
   clear c6
   by_cases c7 : 0 ≤ x24_1
   ·rw [if_pos c7] at H
    have c7b0 : decide (0 ≤ x24_1) = true := decide_eq_true c7
    clear c7
    by_cases c8 : x24_1 < (y258.length : Int)
    ·rw [if_pos c8] at H
     have c8b0 : decide (x24_1 < (y258.length : Int)) = true := decide_eq_true c8
     clear c8
     replace H := Option.bind_eq_some_iff.mp H
     obtain ⟨t263, A90, H⟩ := H
     replace H : (if x5_1.length + t263.size < 140737488355328 then (capture_Write.l0 k1 l0 (x5_1 ++ bytesOf t263) y258 (y258.length : Int) (wrap64 (x24_1 + 1))) else (none)) = some (r1, r2) := H
     have A9 := As A90
     clear A90
     by_cases c10 : x5_1.length + t263.size < 140737488355328
     ·rw [if_pos c10] at H
      have LMc10 := As c10
      clear c10
      obtain ⟨y264, hy264⟩ : ∃ y_ : List Int, y_ = (x5_1 ++ bytesOf t263) := ⟨_, rfl⟩
      replace H : (capture_Write.l0 k1 l0 y264 y258 (y258.length : Int) (wrap64 (x24_1 + 1))) = some (r1, r2) := by first | (rw [hy264]; with_reducible exact H) | (have H2_ := (Option.bind_some _ _).symm.trans H; rw [hy264]; with_reducible exact H2_) | (have H2_ := (Option.bind_some _ _).symm.trans H; with_reducible exact H2_) | with_reducible exact H | (rw [hy264]; exact H) | exact H
      have Ny264 := As hy264
      clear hy264
      have H' := As H
      clear H
      have p261 : 0 ≤ (x24_1 : Int) := of_decide_eq_true (by first | (with_reducible assumption) | assumption)
      have q261 : x24_1 < (y258.length : Int) := of_decide_eq_true (by first | (with_reducible assumption) | assumption)
      obtain ⟨ad261, e261, hx261_0, hx261_1⟩ := at_T50 (Kd.R_reads' HO_22.out).2.2 x24_1 p261 q261
      cases e261
      replace p261 := eq_true p261
      replace q261 := eq_true q261
      go_wp2_with (first | ((with_reducible refine gate_dst (N := 7) rfl ?_); (try (refine gate_guard (by rfl) ?_; dsimp only)); refine box_event rfl (N := 7) rfl (cs := #[.int .i64 0, .int .i64 0]) (t := 50) kG ?_; intro gb262 hg w11 hbox hb; replace HO_5 := As (Kd.R_below (kR HO_5.out) hb); replace HO_22 := As (Kd.R_below (Kd.R_elderB (kR HO_22.out) gb262 (Nat.le_of_eq hg.symm)) hb); have BK262 := As (hbox); have GW262 := As ((by rw [hg]; exact (below_size (kB HB.out)) : w.heap.size ≤ gb262)); have GE262 := As ((by rw [hg]; exact (below_size (kB HB.out)) : w.heap.size ≤ gb262)); replace HB := As (below_step (kB HB.out) hb); clear hb hbox hg; have hcz12_0 := cells_2 BK262.out; have hfz12_0 := fun j_ => blk_frozen BK262.out j_) | (go_at_call 26; (with_reducible refine (field_PutLittle.calls k1 ((rd_T50 y258 x24_1).f0) ((rd_T50 y258 x24_1).f1) t263 _ A9.out).mono ?_); rintro e w13 ⟨rfl, hb⟩; replace HO_5 := As (Kd.R_below (by refine kR ?_; exact (Kd.R_mono (Kd.R_far (p := ⟨gb262, 1, none⟩) (Kd.R_far (p := ⟨gb262, 0, none⟩) (Kd.R_types HO_5.out BK262.out (by decide)) (fun _ hk => hk.2) (.int .i64 ((rd_T50 y258 x24_1).f0))) (fun _ hk => hk.2) (.int .i64 ((rd_T50 y258 x24_1).f1))) (fun _ h_ => h_.1))) hb); replace HO_22 := As (Kd.R_below (by refine kR ?_; exact (Kd.R_mono (Kd.R_far (p := ⟨gb262, 1, none⟩) (Kd.R_far (p := ⟨gb262, 0, none⟩) (Kd.R_mono HO_22.out (fun k_ hk => (⟨hk, hk.2⟩ : _ ∧ k_ ≠ gb262))) (fun _ hk => hk.2) (.int .i64 ((rd_T50 y258 x24_1).f0))) (fun _ hk => hk.2) (.int .i64 ((rd_T50 y258 x24_1).f1))) (fun _ h_ => h_.1))) hb); replace BK262 := As (blk_below (g := gb262) (o := .cells #[.int .i64 ((rd_T50 y258 x24_1).f0), .int .i64 ((rd_T50 y258 x24_1).f1)] 50 (0, 0)) (by refine kb ?_; refine blk_put (cs := #[.int .i64 ((rd_T50 y258 x24_1).f0), .int .i64 0]) ?_ 1 _ rfl; refine kb ?_; refine blk_put (cs := #[.int .i64 0, .int .i64 0]) ?_ 0 _ rfl; exact kb BK262.out) hb); replace HB := As (below_step (kB1 HB.out GE262.out) hb); (try clear hb); (try clear hk)) | (at_builtin; refine print_append_str (w0 := w) w.heap.size rfl (.tmp 28) _ 49 9 5 rfl Try.underlying49 Try.underlying9 info5 u5 x5_1 t263 rfl rfl ?aO ?aB ?aS ?aL ?_; (case aB => exact (kB1 HB.out GE262.out)); (case aO => exact (Kd.own_of_R (kR HO_5.out))); (case aS => exact (below_size (kB1 HB.out GE262.out))); (case aL => have := LMc10.out; omega); intro v265 w14 ho0 hb hg; have ho := Kd.R_of_own (h1 := fun _ => rfl) (ok := fun _ => True) ho0 (fun _ _ => trivial); clear ho0; have hat := True.intro; rw [← Ny264.out] at ho; change Kd.R (Kd.int .u8) 5 w14 w.heap.size (fun _ => True) v265 y264 at ho; replace HO_22 := As (Kd.R_over' (kR HO_22.out) (Kd.R_typed (kR HO_5.out)) (by decide) hg); replace BK262 := As (blk_grown (kb BK262.out) hg (Kd.R_ne HO_5.out BK262.out (by decide))); replace HB := As (hb); have HO266 := As (ho); clear HO_5; clear ho hb hg hat))
      repeat (go_quiet (first | ((with_reducible refine gate_dst (N := 7) rfl ?_); (try (refine gate_guard (by rfl) ?_; dsimp only)); refine box_event rfl (N := 7) rfl (cs := #[.int .i64 0, .int .i64 0]) (t := 50) kG ?_; intro gb262 hg w11 hbox hb; replace HO_5 := As (Kd.R_below (kR HO_5.out) hb); replace HO_22 := As (Kd.R_below (Kd.R_elderB (kR HO_22.out) gb262 (Nat.le_of_eq hg.symm)) hb); have BK262 := As (hbox); have GW262 := As ((by rw [hg]; exact (below_size (kB HB.out)) : w.heap.size ≤ gb262)); have GE262 := As ((by rw [hg]; exact (below_size (kB HB.out)) : w.heap.size ≤ gb262)); replace HB := As (below_step (kB HB.out) hb); clear hb hbox hg; have hcz12_0 := cells_2 BK262.out; have hfz12_0 := fun j_ => blk_frozen BK262.out j_) | (go_at_call 26; (with_reducible refine (field_PutLittle.calls k1 ((rd_T50 y258 x24_1).f0) ((rd_T50 y258 x24_1).f1) t263 _ A9.out).mono ?_); rintro e w13 ⟨rfl, hb⟩; replace HO_5 := As (Kd.R_below (by refine kR ?_; exact (Kd.R_mono (Kd.R_far (p := ⟨gb262, 1, none⟩) (Kd.R_far (p := ⟨gb262, 0, none⟩) (Kd.R_types HO_5.out BK262.out (by decide)) (fun _ hk => hk.2) (.int .i64 ((rd_T50 y258 x24_1).f0))) (fun _ hk => hk.2) (.int .i64 ((rd_T50 y258 x24_1).f1))) (fun _ h_ => h_.1))) hb); replace HO_22 := As (Kd.R_below (by refine kR ?_; exact (Kd.R_mono (Kd.R_far (p := ⟨gb262, 1, none⟩) (Kd.R_far (p := ⟨gb262, 0, none⟩) (Kd.R_mono HO_22.out (fun k_ hk => (⟨hk, hk.2⟩ : _ ∧ k_ ≠ gb262))) (fun _ hk => hk.2) (.int .i64 ((rd_T50 y258 x24_1).f0))) (fun _ hk => hk.2) (.int .i64 ((rd_T50 y258 x24_1).f1))) (fun _ h_ => h_.1))) hb); replace BK262 := As (blk_below (g := gb262) (o := .cells #[.int .i64 ((rd_T50 y258 x24_1).f0), .int .i64 ((rd_T50 y258 x24_1).f1)] 50 (0, 0)) (by refine kb ?_; refine blk_put (cs := #[.int .i64 ((rd_T50 y258 x24_1).f0), .int .i64 0]) ?_ 1 _ rfl; refine kb ?_; refine blk_put (cs := #[.int .i64 0, .int .i64 0]) ?_ 0 _ rfl; exact kb BK262.out) hb); replace HB := As (below_step (kB1 HB.out GE262.out) hb); (try clear hb); (try clear hk)) | (at_builtin; refine print_append_str (w0 := w) w.heap.size rfl (.tmp 28) _ 49 9 5 rfl Try.underlying49 Try.underlying9 info5 u5 x5_1 t263 rfl rfl ?aO ?aB ?aS ?aL ?_; (case aB => exact (kB1 HB.out GE262.out)); (case aO => exact (Kd.own_of_R (kR HO_5.out))); (case aS => exact (below_size (kB1 HB.out GE262.out))); (case aL => have := LMc10.out; omega); intro v265 w14 ho0 hb hg; have ho := Kd.R_of_own (h1 := fun _ => rfl) (ok := fun _ => True) ho0 (fun _ _ => trivial); clear ho0; have hat := True.intro; rw [← Ny264.out] at ho; change Kd.R (Kd.int .u8) 5 w14 w.heap.size (fun _ => True) v265 y264 at ho; replace HO_22 := As (Kd.R_over' (kR HO_22.out) (Kd.R_typed (kR HO_5.out)) (by decide) hg); replace BK262 := As (blk_grown (kb BK262.out) hg (Kd.R_ne HO_5.out BK262.out (by decide))); replace HB := As (hb); have HO266 := As (ho); clear HO_5; clear ho hb hg hat)); try go_wp2_with (first | ((with_reducible refine gate_dst (N := 7) rfl ?_); (try (refine gate_guard (by rfl) ?_; dsimp only)); refine box_event rfl (N := 7) rfl (cs := #[.int .i64 0, .int .i64 0]) (t := 50) kG ?_; intro gb262 hg w11 hbox hb; replace HO_5 := As (Kd.R_below (kR HO_5.out) hb); replace HO_22 := As (Kd.R_below (Kd.R_elderB (kR HO_22.out) gb262 (Nat.le_of_eq hg.symm)) hb); have BK262 := As (hbox); have GW262 := As ((by rw [hg]; exact (below_size (kB HB.out)) : w.heap.size ≤ gb262)); have GE262 := As ((by rw [hg]; exact (below_size (kB HB.out)) : w.heap.size ≤ gb262)); replace HB := As (below_step (kB HB.out) hb); clear hb hbox hg; have hcz12_0 := cells_2 BK262.out; have hfz12_0 := fun j_ => blk_frozen BK262.out j_) | (go_at_call 26; (with_reducible refine (field_PutLittle.calls k1 ((rd_T50 y258 x24_1).f0) ((rd_T50 y258 x24_1).f1) t263 _ A9.out).mono ?_); rintro e w13 ⟨rfl, hb⟩; replace HO_5 := As (Kd.R_below (by refine kR ?_; exact (Kd.R_mono (Kd.R_far (p := ⟨gb262, 1, none⟩) (Kd.R_far (p := ⟨gb262, 0, none⟩) (Kd.R_types HO_5.out BK262.out (by decide)) (fun _ hk => hk.2) (.int .i64 ((rd_T50 y258 x24_1).f0))) (fun _ hk => hk.2) (.int .i64 ((rd_T50 y258 x24_1).f1))) (fun _ h_ => h_.1))) hb); replace HO_22 := As (Kd.R_below (by refine kR ?_; exact (Kd.R_mono (Kd.R_far (p := ⟨gb262, 1, none⟩) (Kd.R_far (p := ⟨gb262, 0, none⟩) (Kd.R_mono HO_22.out (fun k_ hk => (⟨hk, hk.2⟩ : _ ∧ k_ ≠ gb262))) (fun _ hk => hk.2) (.int .i64 ((rd_T50 y258 x24_1).f0))) (fun _ hk => hk.2) (.int .i64 ((rd_T50 y258 x24_1).f1))) (fun _ h_ => h_.1))) hb); replace BK262 := As (blk_below (g := gb262) (o := .cells #[.int .i64 ((rd_T50 y258 x24_1).f0), .int .i64 ((rd_T50 y258 x24_1).f1)] 50 (0, 0)) (by refine kb ?_; refine blk_put (cs := #[.int .i64 ((rd_T50 y258 x24_1).f0), .int .i64 0]) ?_ 1 _ rfl; refine kb ?_; refine blk_put (cs := #[.int .i64 0, .int .i64 0]) ?_ 0 _ rfl; exact kb BK262.out) hb); replace HB := As (below_step (kB1 HB.out GE262.out) hb); (try clear hb); (try clear hk)) | (at_builtin; refine print_append_str (w0 := w) w.heap.size rfl (.tmp 28) _ 49 9 5 rfl Try.underlying49 Try.underlying9 info5 u5 x5_1 t263 rfl rfl ?aO ?aB ?aS ?aL ?_; (case aB => exact (kB1 HB.out GE262.out)); (case aO => exact (Kd.own_of_R (kR HO_5.out))); (case aS => exact (below_size (kB1 HB.out GE262.out))); (case aL => have := LMc10.out; omega); intro v265 w14 ho0 hb hg; have ho := Kd.R_of_own (h1 := fun _ => rfl) (ok := fun _ => True) ho0 (fun _ _ => trivial); clear ho0; have hat := True.intro; rw [← Ny264.out] at ho; change Kd.R (Kd.int .u8) 5 w14 w.heap.size (fun _ => True) v265 y264 at ho; replace HO_22 := As (Kd.R_over' (kR HO_22.out) (Kd.R_typed (kR HO_5.out)) (by decide) hg); replace BK262 := As (blk_grown (kb BK262.out) hg (Kd.R_ne HO_5.out BK262.out (by decide))); replace HB := As (hb); have HO266 := As (ho); clear HO_5; clear ho hb hg hat)))
      go_roundg k1
      case measure => have := HK1.out; omega
      case rel => exact ⟨(y264), (wrap64 (x24_1 + 1)), kS, H', ⟨by have := HK1.out; omega⟩, ⟨by (with_reducible repeat (first | apply Kd.R_alloc | apply Kd.R_drewN | apply Kd.R_drew)); exact HO266.out⟩, ⟨by (with_reducible repeat (first | apply Kd.R_alloc | apply Kd.R_drewN | apply Kd.R_drew)); exact Kd.R_mono HO_22.out (fun _ hk => trivial)⟩, ⟨kB1 HB.out GE262.out⟩⟩
     rw [if_neg c10] at H
     exact absurd H (by simp)
    rw [if_neg c8] at H
    exact absurd H (by simp)
   rw [if_neg c7] at H
   exact absurd H (by simp)
  rw [if_neg c6] at H
  have c6b0 : decide (x24_1 < (y258.length : Int)) = false := decide_eq_false c6
  clear c6
  have H' := As H
  clear H
  go_wp2
  repeat (go_quiet (fail); try go_wp2)
  go_loopg [5, 39] k1 (fun kq v5 v39 w' => ∃ (x5_2 : List Int) (x39_2 : Int), v39 = .int .i64 x39_2 ∧ Aside0 (capture_Write.l1 kq l0 x5_2 l0 (l0.length : Int) x39_2 = some (r1, r2)) ∧ Aside0 (kq ≤ k1) ∧ Aside0 (Kd.R (Kd.int .u8) 5 w' w.heap.size (fun _ => True) v5 x5_2) ∧ Aside0 (Below w.heap.size w w'))
  case atStart => exact ⟨(x5_1), (0), kS, H', ⟨Nat.le_refl _⟩, ⟨by (with_reducible repeat (first | apply Kd.R_alloc | apply Kd.R_drewN | apply Kd.R_drew)); exact HO_5.out⟩, ⟨kB HB.out⟩⟩
  clear H'
  try clear c6
  try clear c6b0
  obtain ⟨x5_2, x39_2, rfl, HA, HK2, HO_5, HB⟩ := hrel
  cases gk with
  | zero => exact absurd HA.out (by simp [capture_Write.l1])
  | succ k2 =>
   have H := HA.out
   clear HA
   simp only [capture_Write.l1] at H
   by_cases c15 : x39_2 < (l0.length : Int)
   ·rw [if_pos c15] at H
    have c15b0 : decide (x39_2 < (l0.length : Int)) = true := decide_eq_true c15
    clear c15
    by_cases c16 : 0 ≤ x39_2
    ·rw [if_pos c16] at H
     have c16b0 : decide (0 ≤ x39_2) = true := decide_eq_true c16
     clear c16
     by_cases c17 : x39_2 < (l0.length : Int)
     ·rw [if_pos c17] at H
      have c17b0 : decide (x39_2 < (l0.length : Int)) = true := decide_eq_true c17
      clear c17
      have HC18 := As H
      clear H
      have p267 : 0 ≤ (x39_2 : Int) := of_decide_eq_true (by first | (with_reducible assumption) | assumption)
      have q267 : x39_2 < (l0.length : Int) := of_decide_eq_true (by first | (with_reducible assumption) | assumption)
      obtain ⟨ad267, e267, hx267_0, hx267_1, hx267_2⟩ := at_T33 HR0.out x39_2 p267 q267
      cases e267
      replace hx267_0 := hcell HB.out hx267_0
      replace hx267_1 := hcell HB.out hx267_1
      replace hx267_2 := hcell HB.out hx267_2
      replace p267 := eq_true p267
      replace q267 := eq_true q267
      go_upto_block 4 with (first | ((with_reducible refine gate_dst (N := 9) rfl ?_); (try (refine gate_guard (by rfl) ?_; dsimp only)); refine box_event rfl (N := 9) rfl (cs := #[.int .i64 0, .int .i64 0, .string (⟨#[]⟩ : ByteArray)]) (t := 33) kG ?_; intro gb268 hg w19 hbox hb; replace HO_5 := As (Kd.R_below (kR HO_5.out) hb); have BK268 := As (hbox); have GW268 := As ((by rw [hg]; exact (below_size (kB HB.out)) : w.heap.size ≤ gb268)); have GE268 := As ((by rw [hg]; exact (below_size (kB HB.out)) : w.heap.size ≤ gb268)); replace HB := As (below_step (kB HB.out) hb); clear hb hbox hg; have hcz20_0 := cells_3 BK268.out; have hfz20_0 := fun j_ => blk_frozen BK268.out j_))
      repeat (go_quiet (first | ((with_reducible refine gate_dst (N := 9) rfl ?_); (try (refine gate_guard (by rfl) ?_; dsimp only)); refine box_event rfl (N := 9) rfl (cs := #[.int .i64 0, .int .i64 0, .string (⟨#[]⟩ : ByteArray)]) (t := 33) kG ?_; intro gb268 hg w19 hbox hb; replace HO_5 := As (Kd.R_below (kR HO_5.out) hb); have BK268 := As (hbox); have GW268 := As ((by rw [hg]; exact (below_size (kB HB.out)) : w.heap.size ≤ gb268)); have GE268 := As ((by rw [hg]; exact (below_size (kB HB.out)) : w.heap.size ≤ gb268)); replace HB := As (below_step (kB HB.out) hb); clear hb hbox hg; have hcz20_0 := cells_3 BK268.out; have hfz20_0 := fun j_ => blk_frozen BK268.out j_)); go_upto_block 4 with (first | ((with_reducible refine gate_dst (N := 9) rfl ?_); (try (refine gate_guard (by rfl) ?_; dsimp only)); refine box_event rfl (N := 9) rfl (cs := #[.int .i64 0, .int .i64 0, .string (⟨#[]⟩ : ByteArray)]) (t := 33) kG ?_; intro gb268 hg w19 hbox hb; replace HO_5 := As (Kd.R_below (kR HO_5.out) hb); have BK268 := As (hbox); have GW268 := As ((by rw [hg]; exact (below_size (kB HB.out)) : w.heap.size ≤ gb268)); have GE268 := As ((by rw [hg]; exact (below_size (kB HB.out)) : w.heap.size ≤ gb268)); replace HB := As (below_step (kB HB.out) hb); clear hb hbox hg; have hcz20_0 := cells_3 BK268.out; have hfz20_0 := fun j_ => blk_frozen BK268.out j_)))
      (try simp only [Act.put, sA, sZ, sS])
      go_cut [] (fun wc => ∃ (kq : Nat), Aside0 (capture_Write.j3 kq l0 x5_2 l0 (l0.length : Int) x39_2 ((rd_T33 l0 x39_2).f0) ((rd_T33 l0 x39_2).f1) ((rd_T33 l0 x39_2).f2) = some (r1, r2)) ∧ Aside0 (kq ≤ k2) ∧ Aside0 (Kd.R (Kd.int .u8) 5 wc w.heap.size (fun _ => True) u5 x5_2) ∧ Aside0 (wc.heap[gb268]? = some (.cells #[.int .i64 ((rd_T33 l0 x39_2).f0), .int .i64 ((rd_T33 l0 x39_2).f1), .string ((rd_T33 l0 x39_2).f2)] 33 (0, 0))) ∧ Aside0 (Below w.heap.size w wc))
      case first =>
       have H := HC18.out
       clear HC18
       by_cases c21 : (((rd_T33 l0 x39_2).f2).size : Int) > 4096
       ·rw [if_pos c21] at H
        have c21b0 : decide (4096 < (((rd_T33 l0 x39_2).f2).size : Int)) = true := decide_eq_true c21
        have c21b1 : decide (4096 < ((rd_T33 l0 x39_2).f2).size) = true := decide_eq_true (by omega)
        clear c21
        (first | rw [c21b0] | (simp only [i64_w, i32_w]; rw [c21b0]) | skip)
        simp only [Option.some.injEq, Prod.mk.injEq] at H
        obtain ⟨rfl, rfl⟩ := H
        have hcz22_0 := cells_3 BK268.out
        have hfz22_0 := fun j_ => blk_frozen BK268.out j_
        go_wp2
        repeat (go_quiet (fail); try go_wp2)
        go_ret2
        exact ⟨kE, by exact kB1 HB.out GE268.out⟩
       rw [if_neg c21] at H
       have c21b0 : decide (4096 < (((rd_T33 l0 x39_2).f2).size : Int)) = false := decide_eq_false c21
       have c21b1 : decide (4096 < ((rd_T33 l0 x39_2).f2).size) = false := decide_eq_false (by omega)
       clear c21
       (first | rw [c21b0] | (simp only [i64_w, i32_w]; rw [c21b0]) | skip)
       have HC23 := As H
       clear H
       have hcz24_0 := cells_3 BK268.out
       have hfz24_0 := fun j_ => blk_frozen BK268.out j_
       go_upto_region 15 with (fail)
       repeat (go_quiet (fail); go_upto_region 15 with (fail))
       go_cut [49] (fun v49 wc => ∃ (kq : Nat) (x49_22 : Bool), v49 = .bool x49_22 ∧ Aside0 (capture_Write.j2 kq l0 x5_2 x39_2 l0 (l0.length : Int) x39_2 x49_22 ((rd_T33 l0 x39_2).f0) ((rd_T33 l0 x39_2).f1) ((rd_T33 l0 x39_2).f2) = some (r1, r2)) ∧ Aside0 (kq ≤ k2) ∧ Aside0 (Kd.R (Kd.int .u8) 5 wc w.heap.size (fun _ => True) u5 x5_2) ∧ Aside0 (wc.heap[gb268]? = some (.cells #[.int .i64 ((rd_T33 l0 x39_2).f0), .int .i64 ((rd_T33 l0 x39_2).f1), .string ((rd_T33 l0 x39_2).f2)] 33 (0, 0))) ∧ Aside0 (Below w.heap.size w wc))
       case first =>
        have H := HC23.out
        clear HC23
        by_cases c25 : ((rd_T33 l0 x39_2).f0) < 0
        ·rw [if_pos c25] at H
         have c25b0 : decide (((rd_T33 l0 x39_2).f0) < 0) = true := decide_eq_true c25
         clear c25
         (first | rw [c25b0] | (simp only [i64_w, i32_w]; rw [c25b0]) | skip)
         have H' := As H
         clear H
         have hcz26_0 := cells_3 BK268.out
         have hfz26_0 := fun j_ => blk_frozen BK268.out j_
         go_wp2
         repeat (go_quiet (fail); try go_wp2)
         go_meet
         case rel => exact ⟨_, (true), kS, H', ⟨by have := HK1.out; have := HK2.out; first | omega | exact Nat.le_refl _⟩, ⟨by (with_reducible repeat (first | apply Kd.R_alloc | apply Kd.R_drewN | apply Kd.R_drew)); exact Kd.R_mono (Kd.R_puts_0_3 gb268 (.int .i64 ((rd_T33 l0 x39_2).f0)) (.int .i64 ((rd_T33 l0 x39_2).f1)) (.string ((rd_T33 l0 x39_2).f2)) (Kd.R_types HO_5.out BK268.out (by decide)) (fun _ hk => hk.2)) (fun _ hk => trivial)⟩, ⟨by refine kb ?_; exact blk_all_3 (kb BK268.out) (by rfl)⟩, ⟨kB1 HB.out GE268.out⟩⟩
        rw [if_neg c25] at H
        have c25b0 : decide (((rd_T33 l0 x39_2).f0) < 0) = false := decide_eq_false c25
        clear c25
        (first | rw [c25b0] | (simp only [i64_w, i32_w]; rw [c25b0]) | skip)
        by_cases c27 : ((rd_T33 l0 x39_2).f0) > 1099511627776
        ·rw [if_pos c27] at H
         have c27b0 : decide (1099511627776 < ((rd_T33 l0 x39_2).f0)) = true := decide_eq_true c27
         clear c27
         have H' := As H
         clear H
         have hcz28_0 := cells_3 BK268.out
         have hfz28_0 := fun j_ => blk_frozen BK268.out j_
         go_wp2
         repeat (go_quiet (fail); try go_wp2)
         go_meet
         case rel => exact ⟨_, (true), kS, H', ⟨by have := HK1.out; have := HK2.out; first | omega | exact Nat.le_refl _⟩, ⟨by (with_reducible repeat (first | apply Kd.R_alloc | apply Kd.R_drewN | apply Kd.R_drew)); exact Kd.R_mono (Kd.R_puts_0_3 gb268 (.int .i64 ((rd_T33 l0 x39_2).f0)) (.int .i64 ((rd_T33 l0 x39_2).f1)) (.string ((rd_T33 l0 x39_2).f2)) (Kd.R_types HO_5.out BK268.out (by decide)) (fun _ hk => hk.2)) (fun _ hk => trivial)⟩, ⟨by refine kb ?_; exact blk_all_3 (kb BK268.out) (by rfl)⟩, ⟨kB1 HB.out GE268.out⟩⟩
        rw [if_neg c27] at H
        have c27b0 : decide (1099511627776 < ((rd_T33 l0 x39_2).f0)) = false := decide_eq_false c27
        clear c27
        by_cases c29 : ((rd_T33 l0 x39_2).f1) < (((rd_T33 l0 x39_2).f2).size : Int)
        ·rw [if_pos c29] at H
         have c29b0 : decide (((rd_T33 l0 x39_2).f1) < (((rd_T33 l0 x39_2).f2).size : Int)) = true := decide_eq_true c29
         clear c29
         have H' := As H
         clear H
         have hcz30_0 := cells_3 BK268.out
         have hfz30_0 := fun j_ => blk_frozen BK268.out j_
         go_wp2
         repeat (go_quiet (fail); try go_wp2)
         go_meet
         case rel => exact ⟨_, (true), kS, H', ⟨by have := HK1.out; have := HK2.out; first | omega | exact Nat.le_refl _⟩, ⟨by (with_reducible repeat (first | apply Kd.R_alloc | apply Kd.R_drewN | apply Kd.R_drew)); exact Kd.R_mono (Kd.R_puts_0_3 gb268 (.int .i64 ((rd_T33 l0 x39_2).f0)) (.int .i64 ((rd_T33 l0 x39_2).f1)) (.string ((rd_T33 l0 x39_2).f2)) (Kd.R_types HO_5.out BK268.out (by decide)) (fun _ hk => hk.2)) (fun _ hk => trivial)⟩, ⟨by refine kb ?_; exact blk_all_3 (kb BK268.out) (by rfl)⟩, ⟨kB1 HB.out GE268.out⟩⟩
        rw [if_neg c29] at H
        have c29b0 : decide (((rd_T33 l0 x39_2).f1) < (((rd_T33 l0 x39_2).f2).size : Int)) = false := decide_eq_false c29
        clear c29
        have H' := As H
        clear H
        have hcz31_0 := cells_3 BK268.out
        have hfz31_0 := fun j_ => blk_frozen BK268.out j_
        go_wp2
        repeat (go_quiet (fail); try go_wp2)
        go_meet
        case rel => exact ⟨_, (decide (((rd_T33 l0 x39_2).f1) > 65535)), kS, H', ⟨by have := HK1.out; have := HK2.out; first | omega | exact Nat.le_refl _⟩, ⟨by (with_reducible repeat (first | apply Kd.R_alloc | apply Kd.R_drewN | apply Kd.R_drew)); exact Kd.R_mono (Kd.R_puts_0_3 gb268 (.int .i64 ((rd_T33 l0 x39_2).f0)) (.int .i64 ((rd_T33 l0 x39_2).f1)) (.string ((rd_T33 l0 x39_2).f2)) (Kd.R_types HO_5.out BK268.out (by decide)) (fun _ hk => hk.2)) (fun _ hk => trivial)⟩, ⟨by refine kb ?_; exact blk_all_3 (kb BK268.out) (by rfl)⟩, ⟨kB1 HB.out GE268.out⟩⟩
       clear HC23
       try clear c15
       try clear c15b0
       try clear c16
       try clear c16b0
       try clear c17
       try clear c17b0
       try clear c21
       try clear c21b0
       try clear c21b1
       try clear hcz20_0
       try clear hcz24_0
       try clear hfz20_0
       try clear hfz24_0
       try clear hx267_0
       try clear hx267_1
       try clear hx267_2
       try clear p267
       try clear q267
       obtain ⟨kq, x49_22, rfl, HA, HJ22, HO_5, BK268, HB⟩ := hcut
       cases kq with
       | zero => exact absurd HA.out (by simp [capture_Write.j2])
       | succ kj22 =>
        have H := HA.out
        clear HA
        simp only [capture_Write.j2] at H
        by_cases c32 : x49_22 = true
        ·subst c32
         have H1 : (some ((⟨#[]⟩ : ByteArray), 4)) = some (r1, r2) := by rw [if_pos rfl] at H; exact H
         clear H
         have H := H1
         clear H1
         simp only [Option.some.injEq, Prod.mk.injEq] at H
         obtain ⟨rfl, rfl⟩ := H
         go_wp2
         repeat (go_quiet (fail); try go_wp2)
         go_ret2
         exact ⟨kE, by exact kB1 HB.out GE268.out⟩
        replace c32 := Bool.eq_false_iff.mpr c32
        subst c32
        have H1 : (if x39_2 > 0 then (if 0 ≤ (wrap64 (x39_2 - 1)) then (if (wrap64 (x39_2 - 1)) < (l0.length : Int) then (if ((rd_T33 l0 x39_2).f0) < ((rd_T33 l0 (wrap64 (x39_2 - 1))).f0) then (some ((⟨#[]⟩ : ByteArray), 12)) else (capture_Write.j3 kj22 l0 x5_2 l0 (l0.length : Int) x39_2 ((rd_T33 l0 x39_2).f0) ((rd_T33 l0 x39_2).f1) ((rd_T33 l0 x39_2).f2))) else (none)) else (none)) else (capture_Write.j3 kj22 l0 x5_2 l0 (l0.length : Int) x39_2 ((rd_T33 l0 x39_2).f0) ((rd_T33 l0 x39_2).f1) ((rd_T33 l0 x39_2).f2))) = some (r1, r2) := by rw [if_neg (show ¬ (false = true) by decide)] at H; exact H
        clear H
        have H := H1
        clear H1
        by_cases c33 : x39_2 > 0
        ·rw [if_pos c33] at H
         have c33b0 : decide (0 < x39_2) = true := decide_eq_true c33
         clear c33
         obtain ⟨ji34, hji34⟩ : ∃ j_ : Int, (wrap64 (x39_2 - 1)) = j_ := ⟨_, rfl⟩
         replace H : (if 0 ≤ (ji34) then (if (ji34) < (l0.length : Int) then (if ((rd_T33 l0 x39_2).f0) < ((rd_T33 l0 (ji34)).f0) then (some ((⟨#[]⟩ : ByteArray), 12)) else (capture_Write.j3 kj22 l0 x5_2 l0 (l0.length : Int) x39_2 ((rd_T33 l0 x39_2).f0) ((rd_T33 l0 x39_2).f1) ((rd_T33 l0 x39_2).f2))) else (none)) else (none)) = some (r1, r2) := by first | (rw [hji34] at H; exact H) | (simp only [hji34] at H ⊢; exact H)
         have hji34w : (IntKind.i64.wrap (x39_2 - 1)) = ji34 := (i64_w _).trans hji34
         by_cases c35 : 0 ≤ (ji34)
         ·rw [if_pos c35] at H
          have c35b0 : decide (0 ≤ (ji34)) = true := decide_eq_true c35
          clear c35
          by_cases c36 : (ji34) < (l0.length : Int)
          ·rw [if_pos c36] at H
           have c36b0 : decide ((ji34) < (l0.length : Int)) = true := decide_eq_true c36
           clear c36
           by_cases c37 : ((rd_T33 l0 x39_2).f0) < ((rd_T33 l0 (ji34)).f0)
           ·rw [if_pos c37] at H
            have c37b0 : decide (((rd_T33 l0 x39_2).f0) < ((rd_T33 l0 (ji34)).f0)) = true := decide_eq_true c37
            clear c37
            simp only [Option.some.injEq, Prod.mk.injEq] at H
            obtain ⟨rfl, rfl⟩ := H
            have hcz38_0 := cells_3 BK268.out
            have hfz38_0 := fun j_ => blk_frozen BK268.out j_
            have p269 : 0 ≤ ((ji34) : Int) := of_decide_eq_true (by first | (with_reducible assumption) | assumption)
            have q269 : (ji34) < (l0.length : Int) := of_decide_eq_true (by first | (with_reducible assumption) | assumption)
            obtain ⟨ad269, e269, hx269_0, hx269_1, hx269_2⟩ := at_T33 HR0.out (ji34) p269 q269
            obtain rfl : ad267 = ad269 := (by injection e269)
            replace hx269_0 := hcell HB.out hx269_0
            replace hx269_1 := hcell HB.out hx269_1
            replace hx269_2 := hcell HB.out hx269_2
            replace p269 := eq_true p269
            replace q269 := eq_true q269
            go_wp2
            repeat (go_quiet (fail); try go_wp2)
            go_ret2
            exact ⟨by first | rfl | (simp [errW_none, errW_some] <;> rfl) | (simp only [← hji34]; first | rfl | (simp [errW_none, errW_some] <;> rfl)) | (simp [*, errW_none, errW_some] <;> rfl), by exact kB1 HB.out GE268.out⟩
           rw [if_neg c37] at H
           have c37b0 : decide (((rd_T33 l0 x39_2).f0) < ((rd_T33 l0 (ji34)).f0)) = false := decide_eq_false c37
           clear c37
           have H' := As H
           clear H
           have hcz39_0 := cells_3 BK268.out
           have hfz39_0 := fun j_ => blk_frozen BK268.out j_
           have p269 : 0 ≤ ((ji34) : Int) := of_decide_eq_true (by first | (with_reducible assumption) | assumption)
           have q269 : (ji34) < (l0.length : Int) := of_decide_eq_true (by first | (with_reducible assumption) | assumption)
           obtain ⟨ad269, e269, hx269_0, hx269_1, hx269_2⟩ := at_T33 HR0.out (ji34) p269 q269
           obtain rfl : ad267 = ad269 := (by injection e269)
           replace hx269_0 := hcell HB.out hx269_0
           replace hx269_1 := hcell HB.out hx269_1
           replace hx269_2 := hcell HB.out hx269_2
           replace p269 := eq_true p269
           replace q269 := eq_true q269
           go_wp2
           repeat (go_quiet (fail); try go_wp2)
           go_meet
           case rel => exact ⟨_, H', ⟨by have := HK1.out; have := HK2.out; have := HJ22.out; first | omega | exact Nat.le_refl _⟩, ⟨by (with_reducible repeat (first | apply Kd.R_alloc | apply Kd.R_drewN | apply Kd.R_drew)); exact HO_5.out⟩, ⟨kb BK268.out⟩, ⟨kB1 HB.out GE268.out⟩⟩
          rw [if_neg c36] at H
          exact absurd H (by simp)
         rw [if_neg c35] at H
         exact absurd H (by simp)
        rw [if_neg c33] at H
        have c33b0 : decide (0 < x39_2) = false := decide_eq_false c33
        clear c33
        have H' := As H
        clear H
        go_wp2
        repeat (go_quiet (fail); try go_wp2)
        go_meet
        case rel => exact ⟨_, H', ⟨by have := HK1.out; have := HK2.out; have := HJ22.out; first | omega | exact Nat.le_refl _⟩, ⟨by (with_reducible repeat (first | apply Kd.R_alloc | apply Kd.R_drewN | apply Kd.R_drew)); exact HO_5.out⟩, ⟨kb BK268.out⟩, ⟨kB1 HB.out GE268.out⟩⟩
      clear HC18
      try clear c15
      try clear c15b0
      try clear c16
      try clear c16b0
      try clear c17
      try clear c17b0
      try clear hcz20_0
      try clear hfz20_0
      try clear hx267_0
      try clear hx267_1
      try clear hx267_2
      try clear p267
      try clear q267
      obtain ⟨kq, HA, HJ17, HO_5, BK268, HB⟩ := hcut
      cases kq with
      | zero => exact absurd HA.out (by simp [capture_Write.j3])
      | succ kj17 =>
       have H := HA.out
       clear HA
       simp only [capture_Write.j3] at H
       obtain ⟨y270, hy270⟩ : ∃ y_ : List Int, y_ = (([wrap64 (Int.tdiv ((rd_T33 l0 x39_2).f0) 1000), wrap64 ((Int.tmod ((rd_T33 l0 x39_2).f0) 1000) * 1000), (((rd_T33 l0 x39_2).f2).size : Int), ((rd_T33 l0 x39_2).f1)] : List Int)) := ⟨_, rfl⟩
       replace H : (capture_Write.l2 kj17 l0 x5_2 l0 (l0.length : Int) x39_2 y270 (y270.length : Int) 0 ((rd_T33 l0 x39_2).f0) ((rd_T33 l0 x39_2).f1) ((rd_T33 l0 x39_2).f2)) = some (r1, r2) := by first | (rw [hy270]; with_reducible exact H) | (have H2_ := (Option.bind_some _ _).symm.trans H; rw [hy270]; with_reducible exact H2_) | (have H2_ := (Option.bind_some _ _).symm.trans H; with_reducible exact H2_) | with_reducible exact H | (rw [hy270]; exact H) | exact H
       have Ny270 := As hy270
       clear hy270
       have H' := As H
       clear H
       have hcz40_0 := cells_3 BK268.out
       have hfz40_0 := fun j_ => blk_frozen BK268.out j_
       go_wp2_with (first | ((with_reducible refine gate_dst (N := 97) rfl ?_); (try (refine gate_guard (by rfl) ?_; dsimp only)); refine Kd.R_lit (Kd.int .i64) _ 3 rfl (N := 97) rfl (xs := ([wrap64 (Int.tdiv ((rd_T33 l0 x39_2).f0) 1000), wrap64 ((Int.tmod ((rd_T33 l0 x39_2).f0) 1000) * 1000), (((rd_T33 l0 x39_2).f2).size : Int), ((rd_T33 l0 x39_2).f1)] : List Int)) (inner := [.int .i64 (wrap64 (Int.tdiv ((rd_T33 l0 x39_2).f0) 1000)), .int .i64 (wrap64 ((Int.tmod ((rd_T33 l0 x39_2).f0) 1000) * 1000)), .int .i64 (((rd_T33 l0 x39_2).f2).size : Int), .int .i64 ((rd_T33 l0 x39_2).f1)]) (ok := fun _ => True) (okp := fun _ => True) kG ?hp (fun _ hk => hk) trivial (Below.refl _ _) (Nat.le_refl _) (by simp) ?_; (case hp => exact (Reps.one (show Kd.M (Kd.int .i64) _ _ _ (wrap64 (Int.tdiv ((rd_T33 l0 x39_2).f0) 1000)) [.int .i64 (wrap64 (Int.tdiv ((rd_T33 l0 x39_2).f0) 1000))] from rfl) (Reps.one (show Kd.M (Kd.int .i64) _ _ _ (wrap64 ((Int.tmod ((rd_T33 l0 x39_2).f0) 1000) * 1000)) [.int .i64 (wrap64 ((Int.tmod ((rd_T33 l0 x39_2).f0) 1000) * 1000))] from rfl) (Reps.one (show Kd.M (Kd.int .i64) _ _ _ (((rd_T33 l0 x39_2).f2).size : Int) [.int .i64 (((rd_T33 l0 x39_2).f2).size : Int)] from rfl) (Reps.one (show Kd.M (Kd.int .i64) _ _ _ ((rd_T33 l0 x39_2).f1) [.int .i64 ((rd_T33 l0 x39_2).f1)] from rfl) (Reps.none _ _)))))); intro v271 w41 ho42 hb hg_ hnew_; clear hg_ hnew_; (first | rw [← Ny270.out] at ho42 | (simp only [Int.reduceToNat] at ho42; rw [← Ny270.out] at ho42)); replace HO_5 := As (Kd.R_below (kR HO_5.out) hb); have HO272 := As (Kd.R_lower ho42 (below_size (kB1 HB.out GE268.out))); replace BK268 := As (blk_below (kb BK268.out) hb); replace HB := As (below_step (kB1 HB.out GE268.out) hb); clear hb ho42; obtain ⟨Ao43, co43, eo43⟩ := Kd.R_slice HO272.out; subst eo43))
       repeat (go_quiet (first | ((with_reducible refine gate_dst (N := 97) rfl ?_); (try (refine gate_guard (by rfl) ?_; dsimp only)); refine Kd.R_lit (Kd.int .i64) _ 3 rfl (N := 97) rfl (xs := ([wrap64 (Int.tdiv ((rd_T33 l0 x39_2).f0) 1000), wrap64 ((Int.tmod ((rd_T33 l0 x39_2).f0) 1000) * 1000), (((rd_T33 l0 x39_2).f2).size : Int), ((rd_T33 l0 x39_2).f1)] : List Int)) (inner := [.int .i64 (wrap64 (Int.tdiv ((rd_T33 l0 x39_2).f0) 1000)), .int .i64 (wrap64 ((Int.tmod ((rd_T33 l0 x39_2).f0) 1000) * 1000)), .int .i64 (((rd_T33 l0 x39_2).f2).size : Int), .int .i64 ((rd_T33 l0 x39_2).f1)]) (ok := fun _ => True) (okp := fun _ => True) kG ?hp (fun _ hk => hk) trivial (Below.refl _ _) (Nat.le_refl _) (by simp) ?_; (case hp => exact (Reps.one (show Kd.M (Kd.int .i64) _ _ _ (wrap64 (Int.tdiv ((rd_T33 l0 x39_2).f0) 1000)) [.int .i64 (wrap64 (Int.tdiv ((rd_T33 l0 x39_2).f0) 1000))] from rfl) (Reps.one (show Kd.M (Kd.int .i64) _ _ _ (wrap64 ((Int.tmod ((rd_T33 l0 x39_2).f0) 1000) * 1000)) [.int .i64 (wrap64 ((Int.tmod ((rd_T33 l0 x39_2).f0) 1000) * 1000))] from rfl) (Reps.one (show Kd.M (Kd.int .i64) _ _ _ (((rd_T33 l0 x39_2).f2).size : Int) [.int .i64 (((rd_T33 l0 x39_2).f2).size : Int)] from rfl) (Reps.one (show Kd.M (Kd.int .i64) _ _ _ ((rd_T33 l0 x39_2).f1) [.int .i64 ((rd_T33 l0 x39_2).f1)] from rfl) (Reps.none _ _)))))); intro v271 w41 ho42 hb hg_ hnew_; clear hg_ hnew_; (first | rw [← Ny270.out] at ho42 | (simp only [Int.reduceToNat] at ho42; rw [← Ny270.out] at ho42)); replace HO_5 := As (Kd.R_below (kR HO_5.out) hb); have HO272 := As (Kd.R_lower ho42 (below_size (kB1 HB.out GE268.out))); replace BK268 := As (blk_below (kb BK268.out) hb); replace HB := As (below_step (kB1 HB.out GE268.out) hb); clear hb ho42; obtain ⟨Ao43, co43, eo43⟩ := Kd.R_slice HO272.out; subst eo43)); try go_wp2_with (first | ((with_reducible refine gate_dst (N := 97) rfl ?_); (try (refine gate_guard (by rfl) ?_; dsimp only)); refine Kd.R_lit (Kd.int .i64) _ 3 rfl (N := 97) rfl (xs := ([wrap64 (Int.tdiv ((rd_T33 l0 x39_2).f0) 1000), wrap64 ((Int.tmod ((rd_T33 l0 x39_2).f0) 1000) * 1000), (((rd_T33 l0 x39_2).f2).size : Int), ((rd_T33 l0 x39_2).f1)] : List Int)) (inner := [.int .i64 (wrap64 (Int.tdiv ((rd_T33 l0 x39_2).f0) 1000)), .int .i64 (wrap64 ((Int.tmod ((rd_T33 l0 x39_2).f0) 1000) * 1000)), .int .i64 (((rd_T33 l0 x39_2).f2).size : Int), .int .i64 ((rd_T33 l0 x39_2).f1)]) (ok := fun _ => True) (okp := fun _ => True) kG ?hp (fun _ hk => hk) trivial (Below.refl _ _) (Nat.le_refl _) (by simp) ?_; (case hp => exact (Reps.one (show Kd.M (Kd.int .i64) _ _ _ (wrap64 (Int.tdiv ((rd_T33 l0 x39_2).f0) 1000)) [.int .i64 (wrap64 (Int.tdiv ((rd_T33 l0 x39_2).f0) 1000))] from rfl) (Reps.one (show Kd.M (Kd.int .i64) _ _ _ (wrap64 ((Int.tmod ((rd_T33 l0 x39_2).f0) 1000) * 1000)) [.int .i64 (wrap64 ((Int.tmod ((rd_T33 l0 x39_2).f0) 1000) * 1000))] from rfl) (Reps.one (show Kd.M (Kd.int .i64) _ _ _ (((rd_T33 l0 x39_2).f2).size : Int) [.int .i64 (((rd_T33 l0 x39_2).f2).size : Int)] from rfl) (Reps.one (show Kd.M (Kd.int .i64) _ _ _ ((rd_T33 l0 x39_2).f1) [.int .i64 ((rd_T33 l0 x39_2).f1)] from rfl) (Reps.none _ _)))))); intro v271 w41 ho42 hb hg_ hnew_; clear hg_ hnew_; (first | rw [← Ny270.out] at ho42 | (simp only [Int.reduceToNat] at ho42; rw [← Ny270.out] at ho42)); replace HO_5 := As (Kd.R_below (kR HO_5.out) hb); have HO272 := As (Kd.R_lower ho42 (below_size (kB1 HB.out GE268.out))); replace BK268 := As (blk_below (kb BK268.out) hb); replace HB := As (below_step (kB1 HB.out GE268.out) hb); clear hb ho42; obtain ⟨Ao43, co43, eo43⟩ := Kd.R_slice HO272.out; subst eo43)))
       go_loopg [5, 99] kj17 (fun kq v5 v99 w' => ∃ (x5_4 : List Int) (x99_4 : Int), v99 = .int .i64 x99_4 ∧ Aside0 (capture_Write.l2 kq l0 x5_4 l0 (l0.length : Int) x39_2 y270 (y270.length : Int) x99_4 ((rd_T33 l0 x39_2).f0) ((rd_T33 l0 x39_2).f1) ((rd_T33 l0 x39_2).f2) = some (r1, r2)) ∧ Aside0 (kq ≤ kj17) ∧ Aside0 (Kd.R (Kd.int .u8) 5 w' w.heap.size (fun _ => True) v5 x5_4) ∧ Aside0 (Kd.R (Kd.int .i64) 3 w' w.heap.size (fun _ => True) (.slice Ao43 y270.length co43) y270) ∧ Aside0 (w'.heap[gb268]? = some (.cells #[.int .i64 ((rd_T33 l0 x39_2).f0), .int .i64 ((rd_T33 l0 x39_2).f1), .string ((rd_T33 l0 x39_2).f2)] 33 (0, 0))) ∧ Aside0 (Below w.heap.size w w'))
       case atStart => exact ⟨(x5_2), (0), kS, H', ⟨Nat.le_refl _⟩, ⟨by (with_reducible repeat (first | apply Kd.R_alloc | apply Kd.R_drewN | apply Kd.R_drew)); exact HO_5.out⟩, ⟨by (with_reducible repeat (first | apply Kd.R_alloc | apply Kd.R_drewN | apply Kd.R_drew)); exact HO272.out⟩, ⟨kb BK268.out⟩, ⟨kB1 HB.out GE268.out⟩⟩
       clear H'
       try clear hcz40_0
       try clear hfz40_0
       obtain ⟨x5_4, x99_4, rfl, HA, HK4, HO_5, HO_97, BK268, HB⟩ := hrel
       cases gk with
       | zero => exact absurd HA.out (by simp [capture_Write.l2])
       | succ k4 =>
        have H := HA.out
        clear HA
        simp only [capture_Write.l2] at H
        by_cases c44 : x99_4 < (y270.length : Int)
        ·rw [if_pos c44] at H
         have c44b0 : decide (x99_4 < (y270.length : Int)) = true := decide_eq_true c44
         clear c44
         by_cases c45 : 0 ≤ x99_4
         ·rw [if_pos c45] at H
          have c45b0 : decide (0 ≤ x99_4) = true := decide_eq_true c45
          clear c45
          by_cases c46 : x99_4 < (y270.length : Int)
          ·rw [if_pos c46] at H
           have c46b0 : decide (x99_4 < (y270.length : Int)) = true := decide_eq_true c46
           clear c46
           replace H := Option.bind_eq_some_iff.mp H
           obtain ⟨t274, A470, H⟩ := H
           replace H : (if x5_4.length + t274.size < 140737488355328 then (capture_Write.l2 k4 l0 (x5_4 ++ bytesOf t274) l0 (l0.length : Int) x39_2 y270 (y270.length : Int) (wrap64 (x99_4 + 1)) ((rd_T33 l0 x39_2).f0) ((rd_T33 l0 x39_2).f1) ((rd_T33 l0 x39_2).f2)) else (none)) = some (r1, r2) := H
           have A47 := As A470
           clear A470
           by_cases c48 : x5_4.length + t274.size < 140737488355328
           ·rw [if_pos c48] at H
            have LMc48 := As c48
            clear c48
            obtain ⟨y275, hy275⟩ : ∃ y_ : List Int, y_ = (x5_4 ++ bytesOf t274) := ⟨_, rfl⟩
            replace H : (capture_Write.l2 k4 l0 y275 l0 (l0.length : Int) x39_2 y270 (y270.length : Int) (wrap64 (x99_4 + 1)) ((rd_T33 l0 x39_2).f0) ((rd_T33 l0 x39_2).f1) ((rd_T33 l0 x39_2).f2)) = some (r1, r2) := by first | (rw [hy275]; with_reducible exact H) | (have H2_ := (Option.bind_some _ _).symm.trans H; rw [hy275]; with_reducible exact H2_) | (have H2_ := (Option.bind_some _ _).symm.trans H; with_reducible exact H2_) | with_reducible exact H | (rw [hy275]; exact H) | exact H
            have Ny275 := As hy275
            clear hy275
            have H' := As H
            clear H
            have p273 : 0 ≤ (x99_4 : Int) := of_decide_eq_true (by first | (with_reducible assumption) | assumption)
            have q273 : x99_4 < (y270.length : Int) := of_decide_eq_true (by first | (with_reducible assumption) | assumption)
            obtain ⟨ad273, e273, hx273_0⟩ := Kd.at_int (Kd.R_reads' HO_97.out).2.2 x99_4 p273 q273
            cases e273
            replace p273 := eq_true p273
            replace q273 := eq_true q273
            go_wp2_with (first | (go_at_call 26; (with_reducible refine (field_PutLittle.calls k4 (rd y270 x99_4) 4 t274 _ A47.out).mono ?_); rintro e w49 ⟨rfl, hb⟩; replace HO_5 := As (Kd.R_below (kR HO_5.out) hb); replace HO_97 := As (Kd.R_below (kR HO_97.out) hb); replace BK268 := As (blk_below (kb BK268.out) hb); replace HB := As (below_step (kB1 HB.out GE268.out) hb); (try clear hb); (try clear hk)) | (at_builtin; refine print_append_str (w0 := w) w.heap.size rfl (.tmp 103) _ 49 9 5 rfl Try.underlying49 Try.underlying9 info5 u5 x5_4 t274 rfl rfl ?aO ?aB ?aS ?aL ?_; (case aB => exact (kB1 HB.out GE268.out)); (case aO => exact (Kd.own_of_R (kR HO_5.out))); (case aS => exact (below_size (kB1 HB.out GE268.out))); (case aL => have := LMc48.out; omega); intro v276 w50 ho0 hb hg; have ho := Kd.R_of_own (h1 := fun _ => rfl) (ok := fun _ => True) ho0 (fun _ _ => trivial); clear ho0; have hat := True.intro; rw [← Ny275.out] at ho; change Kd.R (Kd.int .u8) 5 w50 w.heap.size (fun _ => True) v276 y275 at ho; replace HO_97 := As (Kd.R_over' (kR HO_97.out) (Kd.R_typed (kR HO_5.out)) (by decide) hg); replace BK268 := As (blk_grown (kb BK268.out) hg (Kd.R_ne HO_5.out BK268.out (by decide))); replace HB := As (hb); have HO277 := As (ho); clear HO_5; clear ho hb hg hat))
            repeat (go_quiet (first | (go_at_call 26; (with_reducible refine (field_PutLittle.calls k4 (rd y270 x99_4) 4 t274 _ A47.out).mono ?_); rintro e w49 ⟨rfl, hb⟩; replace HO_5 := As (Kd.R_below (kR HO_5.out) hb); replace HO_97 := As (Kd.R_below (kR HO_97.out) hb); replace BK268 := As (blk_below (kb BK268.out) hb); replace HB := As (below_step (kB1 HB.out GE268.out) hb); (try clear hb); (try clear hk)) | (at_builtin; refine print_append_str (w0 := w) w.heap.size rfl (.tmp 103) _ 49 9 5 rfl Try.underlying49 Try.underlying9 info5 u5 x5_4 t274 rfl rfl ?aO ?aB ?aS ?aL ?_; (case aB => exact (kB1 HB.out GE268.out)); (case aO => exact (Kd.own_of_R (kR HO_5.out))); (case aS => exact (below_size (kB1 HB.out GE268.out))); (case aL => have := LMc48.out; omega); intro v276 w50 ho0 hb hg; have ho := Kd.R_of_own (h1 := fun _ => rfl) (ok := fun _ => True) ho0 (fun _ _ => trivial); clear ho0; have hat := True.intro; rw [← Ny275.out] at ho; change Kd.R (Kd.int .u8) 5 w50 w.heap.size (fun _ => True) v276 y275 at ho; replace HO_97 := As (Kd.R_over' (kR HO_97.out) (Kd.R_typed (kR HO_5.out)) (by decide) hg); replace BK268 := As (blk_grown (kb BK268.out) hg (Kd.R_ne HO_5.out BK268.out (by decide))); replace HB := As (hb); have HO277 := As (ho); clear HO_5; clear ho hb hg hat)); try go_wp2_with (first | (go_at_call 26; (with_reducible refine (field_PutLittle.calls k4 (rd y270 x99_4) 4 t274 _ A47.out).mono ?_); rintro e w49 ⟨rfl, hb⟩; replace HO_5 := As (Kd.R_below (kR HO_5.out) hb); replace HO_97 := As (Kd.R_below (kR HO_97.out) hb); replace BK268 := As (blk_below (kb BK268.out) hb); replace HB := As (below_step (kB1 HB.out GE268.out) hb); (try clear hb); (try clear hk)) | (at_builtin; refine print_append_str (w0 := w) w.heap.size rfl (.tmp 103) _ 49 9 5 rfl Try.underlying49 Try.underlying9 info5 u5 x5_4 t274 rfl rfl ?aO ?aB ?aS ?aL ?_; (case aB => exact (kB1 HB.out GE268.out)); (case aO => exact (Kd.own_of_R (kR HO_5.out))); (case aS => exact (below_size (kB1 HB.out GE268.out))); (case aL => have := LMc48.out; omega); intro v276 w50 ho0 hb hg; have ho := Kd.R_of_own (h1 := fun _ => rfl) (ok := fun _ => True) ho0 (fun _ _ => trivial); clear ho0; have hat := True.intro; rw [← Ny275.out] at ho; change Kd.R (Kd.int .u8) 5 w50 w.heap.size (fun _ => True) v276 y275 at ho; replace HO_97 := As (Kd.R_over' (kR HO_97.out) (Kd.R_typed (kR HO_5.out)) (by decide) hg); replace BK268 := As (blk_grown (kb BK268.out) hg (Kd.R_ne HO_5.out BK268.out (by decide))); replace HB := As (hb); have HO277 := As (ho); clear HO_5; clear ho hb hg hat)))
            go_roundg k4
            case measure => have := HK1.out; have := HK2.out; have := HJ17.out; have := HK4.out; omega
            case rel => exact ⟨(y275), (wrap64 (x99_4 + 1)), kS, H', ⟨by have := HK1.out; have := HK2.out; have := HJ17.out; have := HK4.out; omega⟩, ⟨by (with_reducible repeat (first | apply Kd.R_alloc | apply Kd.R_drewN | apply Kd.R_drew)); exact HO277.out⟩, ⟨by (with_reducible repeat (first | apply Kd.R_alloc | apply Kd.R_drewN | apply Kd.R_drew)); exact HO_97.out⟩, ⟨kb BK268.out⟩, ⟨kB1 HB.out GE268.out⟩⟩
           rw [if_neg c48] at H
           exact absurd H (by simp)
          rw [if_neg c46] at H
          exact absurd H (by simp)
         rw [if_neg c45] at H
         exact absurd H (by simp)
        rw [if_neg c44] at H
        have c44b0 : decide (x99_4 < (y270.length : Int)) = false := decide_eq_false c44
        clear c44
        by_cases c51 : x5_4.length + ((rd_T33 l0 x39_2).f2).size < 140737488355328
        ·rw [if_pos c51] at H
         have LMc51 := As c51
         clear c51
         obtain ⟨y278, hy278⟩ : ∃ y_ : List Int, y_ = (x5_4 ++ bytesOf ((rd_T33 l0 x39_2).f2)) := ⟨_, rfl⟩
         replace H : (capture_Write.l1 k4 l0 y278 l0 (l0.length : Int) (wrap64 (x39_2 + 1))) = some (r1, r2) := by first | (rw [hy278]; with_reducible exact H) | (have H2_ := (Option.bind_some _ _).symm.trans H; rw [hy278]; with_reducible exact H2_) | (have H2_ := (Option.bind_some _ _).symm.trans H; with_reducible exact H2_) | with_reducible exact H | (rw [hy278]; exact H) | exact H
         have Ny278 := As hy278
         clear hy278
         have H' := As H
         clear H
         have hcz52_0 := cells_3 BK268.out
         have hfz52_0 := fun j_ => blk_frozen BK268.out j_
         go_wp2_with (first | (at_builtin; refine print_append_str (w0 := w) w.heap.size rfl (.tmp 109) _ 49 9 5 rfl Try.underlying49 Try.underlying9 info5 u5 x5_4 ((rd_T33 l0 x39_2).f2) rfl rfl ?aO ?aB ?aS ?aL ?_; (case aB => exact (kB1 HB.out GE268.out)); (case aO => exact (Kd.own_of_R (kR HO_5.out))); (case aS => exact (below_size (kB1 HB.out GE268.out))); (case aL => have := LMc51.out; omega); intro v279 w53 ho0 hb hg; have ho := Kd.R_of_own (h1 := fun _ => rfl) (ok := fun _ => True) ho0 (fun _ _ => trivial); clear ho0; have hat := True.intro; rw [← Ny278.out] at ho; change Kd.R (Kd.int .u8) 5 w53 w.heap.size (fun _ => True) v279 y278 at ho; replace HO_97 := As (Kd.R_over' (kR HO_97.out) (Kd.R_typed (kR HO_5.out)) (by decide) hg); replace BK268 := As (blk_grown (kb BK268.out) hg (Kd.R_ne HO_5.out BK268.out (by decide))); replace HB := As (hb); have HO280 := As (ho); clear HO_5; clear ho hb hg hat))
         repeat (go_quiet (first | (at_builtin; refine print_append_str (w0 := w) w.heap.size rfl (.tmp 109) _ 49 9 5 rfl Try.underlying49 Try.underlying9 info5 u5 x5_4 ((rd_T33 l0 x39_2).f2) rfl rfl ?aO ?aB ?aS ?aL ?_; (case aB => exact (kB1 HB.out GE268.out)); (case aO => exact (Kd.own_of_R (kR HO_5.out))); (case aS => exact (below_size (kB1 HB.out GE268.out))); (case aL => have := LMc51.out; omega); intro v279 w53 ho0 hb hg; have ho := Kd.R_of_own (h1 := fun _ => rfl) (ok := fun _ => True) ho0 (fun _ _ => trivial); clear ho0; have hat := True.intro; rw [← Ny278.out] at ho; change Kd.R (Kd.int .u8) 5 w53 w.heap.size (fun _ => True) v279 y278 at ho; replace HO_97 := As (Kd.R_over' (kR HO_97.out) (Kd.R_typed (kR HO_5.out)) (by decide) hg); replace BK268 := As (blk_grown (kb BK268.out) hg (Kd.R_ne HO_5.out BK268.out (by decide))); replace HB := As (hb); have HO280 := As (ho); clear HO_5; clear ho hb hg hat)); try go_wp2_with (first | (at_builtin; refine print_append_str (w0 := w) w.heap.size rfl (.tmp 109) _ 49 9 5 rfl Try.underlying49 Try.underlying9 info5 u5 x5_4 ((rd_T33 l0 x39_2).f2) rfl rfl ?aO ?aB ?aS ?aL ?_; (case aB => exact (kB1 HB.out GE268.out)); (case aO => exact (Kd.own_of_R (kR HO_5.out))); (case aS => exact (below_size (kB1 HB.out GE268.out))); (case aL => have := LMc51.out; omega); intro v279 w53 ho0 hb hg; have ho := Kd.R_of_own (h1 := fun _ => rfl) (ok := fun _ => True) ho0 (fun _ _ => trivial); clear ho0; have hat := True.intro; rw [← Ny278.out] at ho; change Kd.R (Kd.int .u8) 5 w53 w.heap.size (fun _ => True) v279 y278 at ho; replace HO_97 := As (Kd.R_over' (kR HO_97.out) (Kd.R_typed (kR HO_5.out)) (by decide) hg); replace BK268 := As (blk_grown (kb BK268.out) hg (Kd.R_ne HO_5.out BK268.out (by decide))); replace HB := As (hb); have HO280 := As (ho); clear HO_5; clear ho hb hg hat)))
         go_roundg k4
         case measure => have := HK1.out; have := HK2.out; have := HJ17.out; have := HK4.out; omega
         case rel => exact ⟨(y278), (wrap64 (x39_2 + 1)), kS, H', ⟨by have := HK1.out; have := HK2.out; have := HJ17.out; have := HK4.out; omega⟩, ⟨by (with_reducible repeat (first | apply Kd.R_alloc | apply Kd.R_drewN | apply Kd.R_drew)); exact HO280.out⟩, ⟨kB1 HB.out GE268.out⟩⟩
        rw [if_neg c51] at H
        exact absurd H (by simp)
     rw [if_neg c17] at H
     exact absurd H (by simp)
    rw [if_neg c16] at H
    exact absurd H (by simp)
   rw [if_neg c15] at H
   have c15b0 : decide (x39_2 < (l0.length : Int)) = false := decide_eq_false c15
   clear c15
   simp only [Option.some.injEq, Prod.mk.injEq] at H
   obtain ⟨rfl, rfl⟩ := H
   have hcv54 := own_string (P := Try.prog) Try.underlying49 Try.underlying5 Try.underlying9 (Kd.own_of_R HO_5.out)
   go_wp2
   repeat (go_quiet (fail); try go_wp2)
   go_ret2
   exact ⟨kE, by exact kB HB.out⟩

end Go.Proofs.Ytafjmciojeondaa.X
-- short
