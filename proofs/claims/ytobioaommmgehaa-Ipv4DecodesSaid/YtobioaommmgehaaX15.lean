/- Functions and their walks, printed by xprint.py. -/
import Derived.Test.YtobioaommmgehaaX0
namespace Go.Proofs.Ytobioaommmgehaa.X
open Go.RowKit Go.Proofs.YtobioaommmgehaaW.PrintWords Go.Proofs.YtobioaommmgehaaW.PrintLast Go.Proofs.YtobioaommmgehaaW.PrintMore
attribute [local go_sem] max2_int min2_int max_two min_two max_three min_three max_four min_four   -- for this text's walks alone
set_option linter.unusedVariables false
set_option linter.unusedSimpArgs false

/-! ### intrusionref01_Value: function 70 -/
def intrusionref01_Value.l0 : Nat → ByteArray → Int → Int → Option (Int)
 | 0, _, _, _ => none
 | k + 1, x0, x3, x4 => if x4 < (x0.size : Int) then (if 0 ≤ x4 then (intrusionref01_Value.l0 k x0 (wrap64 ((wrap64 (x3 * 256)) + (wrap64 (bt x0 x4)))) (wrap64 (x4 + 1))) else (none)) else (some x3)
def intrusionref01_Value.f (k : Nat) (a0 : ByteArray) : Option (Int) := intrusionref01_Value.l0 k a0 0 0
theorem intrusionref01_Value.mono_l : ∀ k, (∀ y0 y1 y2, LeO (intrusionref01_Value.l0 k y0 y1 y2) (intrusionref01_Value.l0 (k + 1) y0 y1 y2))
 | 0 => fun _ _ _ r h => by simp [intrusionref01_Value.l0] at h
 | k + 1 => by
  have ih0 := intrusionref01_Value.mono_l k
  intro y0 y1 y2
  unfold intrusionref01_Value.l0
  repeat' first | with_reducible first | apply ih0 | apply LeO.refl | apply LeO.none | refine LeO.ite ?_ ?_ | refine LeO.bind ?_ (fun _ => ?_)
theorem intrusionref01_Value.mono : ∀ a0 k, LeO (intrusionref01_Value.f k a0) (intrusionref01_Value.f (k + 1) a0) := by
 intro a0 k
 have ih0 := intrusionref01_Value.mono_l k
 unfold intrusionref01_Value.f
 repeat' first | with_reducible first | apply ih0 | apply LeO.refl | apply LeO.none | refine LeO.ite ?_ ?_ | refine LeO.bind ?_ (fun _ => ?_)
set_option maxHeartbeats 8000000 in
set_option maxRecDepth 100000 in
theorem intrusionref01_Value.calls (k : Nat) (a0 : ByteArray) (r : Int) (w : World) (h : intrusionref01_Value.f k a0 = some r) :
  Calls Try.prog 70 #[.string a0] w fun e w' => e = .returned (.int .i64 r) ∧ Drawn0 w w' := by
 have H : (intrusionref01_Value.l0 k a0 0 0) = some r := h
 clear h
 have H' := As H
 clear H
 go_enter Try.func70, Try.ntmps70
 go_wp2
 go_loopg [3, 4] k (fun kq v3 v4 w' => ∃ (x3_1 : Int) (x4_1 : Int), v3 = .int .i64 x3_1 ∧ v4 = .int .i64 x4_1 ∧ Aside0 (intrusionref01_Value.l0 kq a0 x3_1 x4_1 = some r) ∧ Aside0 (kq ≤ k) ∧ Drawn0 w w')
 case atStart => exact ⟨(0), (0), kS, kS, H', ⟨Nat.le_refl _⟩, by repeat (first | exact Drawn0.refl _ | apply Drawn0.step)⟩
 clear H'
 obtain ⟨x3_1, x4_1, rfl, rfl, HA, HK1, ⟨m1, rfl⟩⟩ := hrel
 cases gk with
 | zero => exact absurd HA.out (by simp [intrusionref01_Value.l0])
 | succ k1 =>
  have H := HA.out
  clear HA
  simp only [intrusionref01_Value.l0] at H
  by_cases c2 : x4_1 < (a0.size : Int)
  ·rw [if_pos c2] at H
   have c2b0 : decide (x4_1 < (a0.size : Int)) = true := decide_eq_true c2
   clear c2
   replace H := iS H
   obtain ⟨c3, H⟩ := H
   have c3b0 := decide_eq_true c3
   clear c3
   have H' := As H
   clear H
   have p4 : 0 ≤ (x4_1 : Int) := of_decide_eq_true (by first | (with_reducible assumption) | assumption)
   have q4 : x4_1 < (a0.size : Int) := of_decide_eq_true (by first | (with_reducible assumption) | assumption)
   have hx4 := bt_at a0 x4_1
   replace p4 := eq_true p4
   replace q4 := eq_true q4
   go_wp2
   go_roundg k1
   case measure => have := HK1.out; omega
   case rel => exact ⟨(wrap64 ((wrap64 (x3_1 * 256)) + (wrap64 (bt a0 x4_1)))), (wrap64 (x4_1 + 1)), kS, kS, H', ⟨by have := HK1.out; omega⟩, by repeat (first | exact Drawn0.refl _ | apply Drawn0.step)⟩
  rw [if_neg c2] at H
  have c2b0 : decide (x4_1 < (a0.size : Int)) = false := decide_eq_false c2
  clear c2
  obtain rfl := Option.some.inj H
  go_wp2
  go_ret
  exact ⟨by first | rfl | (simp; done) | (simp [*]; done), by repeat (first | exact Drawn0.refl _ | apply Drawn0.step)⟩

/-! ### intrusionref01_Get: function 57 -/
def intrusionref01_Get.j0 : Nat → ByteArray → Int → Int → Bool → Option (Int × Int)
 | 0, _, _, _, _ => none
 | k + 1, x0, x1, x2, x17 => if x17 = true then (some (0, 4)) else (if x1 > (x0.size : Int) then (some (0, 1)) else (if (wrap64 ((x0.size : Int) - x1)) < x2 then (some (0, 1)) else (if 0 ≤ x1 then (if x1 ≤ (wrap64 (x1 + x2)) then (if (wrap64 (x1 + x2)) ≤ (x0.size : Int) then ((intrusionref01_Value.f k (x0.extract (x1 : Int).toNat ((wrap64 (x1 + x2)) : Int).toNat)).bind fun t379 => (some (t379, 0))) else (none)) else (none)) else (none))))
def intrusionref01_Get.f (k : Nat) (a0 : ByteArray) (a1 : Int) (a2 : Int) : Option (Int × Int) := if a2 < 1 then (intrusionref01_Get.j0 k a0 a1 a2 true) else (if a2 > 7 then (intrusionref01_Get.j0 k a0 a1 a2 true) else (intrusionref01_Get.j0 k a0 a1 a2 (decide (a1 < 0))))
theorem intrusionref01_Get.mono_l : ∀ k, (∀ y0 y1 y2 y3, LeO (intrusionref01_Get.j0 k y0 y1 y2 y3) (intrusionref01_Get.j0 (k + 1) y0 y1 y2 y3))
 | 0 => fun _ _ _ _ r h => by simp [intrusionref01_Get.j0] at h
 | k + 1 => by
  have ih0 := intrusionref01_Get.mono_l k
  intro y0 y1 y2 y3
  unfold intrusionref01_Get.j0
  repeat' first | with_reducible first | apply ih0 | apply intrusionref01_Value.mono | apply LeO.refl | apply LeO.none | refine LeO.ite ?_ ?_ | refine LeO.bind ?_ (fun _ => ?_)
theorem intrusionref01_Get.mono : ∀ a0 a1 a2 k, LeO (intrusionref01_Get.f k a0 a1 a2) (intrusionref01_Get.f (k + 1) a0 a1 a2) := by
 intro a0 a1 a2 k
 have ih0 := intrusionref01_Get.mono_l k
 unfold intrusionref01_Get.f
 repeat' first | with_reducible first | apply ih0 | apply intrusionref01_Value.mono | apply LeO.refl | apply LeO.none | refine LeO.ite ?_ ?_ | refine LeO.bind ?_ (fun _ => ?_)
set_option maxHeartbeats 8000000 in
set_option maxRecDepth 100000 in
theorem intrusionref01_Get.calls (k : Nat) (a0 : ByteArray) (a1 : Int) (a2 : Int) (r1 : Int) (r2 : Int) (w : World) (h : intrusionref01_Get.f k a0 a1 a2 = some (r1, r2)) :
  Calls Try.prog 57 #[.string a0, .int .i64 a1, .int .i64 a2] w fun e w' => e = .returned (.tuple #[.int .i64 r1, .int .i64 r2]) ∧ Drawn0 w w' := by
 have H : (if a2 < 1 then (intrusionref01_Get.j0 k a0 a1 a2 true) else (if a2 > 7 then (intrusionref01_Get.j0 k a0 a1 a2 true) else (intrusionref01_Get.j0 k a0 a1 a2 (decide (a1 < 0))))) = some (r1, r2) := h
 clear h
 have HC4 := As H
 clear H
 go_enter Try.func57, Try.ntmps57
 go_upto_region 1 with (fail)
 go_cut [17] (fun v17 wc => ∃ (kq : Nat) (x17_3 : Bool), v17 = .bool x17_3 ∧ Aside0 (intrusionref01_Get.j0 kq a0 a1 a2 x17_3 = some (r1, r2)) ∧ Aside0 (kq ≤ k) ∧ Drawn0 w wc)
 case first =>
  have H := HC4.out
  clear HC4
  by_cases c5 : a2 < 1
  ·rw [if_pos c5] at H
   have c5b0 : decide (a2 < 1) = true := decide_eq_true c5
   clear c5
   (first | rw [c5b0] | (simp only [i64_w, i32_w]; rw [c5b0]) | skip)
   have H' := As H
   clear H
   go_wp2
   go_meet
   case rel => exact ⟨_, (true), kS, H', ⟨by first | omega | exact Nat.le_refl _⟩, by repeat (first | exact Drawn0.refl _ | apply Drawn0.step)⟩
  rw [if_neg c5] at H
  have c5b0 : decide (a2 < 1) = false := decide_eq_false c5
  clear c5
  (first | rw [c5b0] | (simp only [i64_w, i32_w]; rw [c5b0]) | skip)
  by_cases c6 : a2 > 7
  ·rw [if_pos c6] at H
   have c6b0 : decide (7 < a2) = true := decide_eq_true c6
   clear c6
   have H' := As H
   clear H
   go_wp2
   go_meet
   case rel => exact ⟨_, (true), kS, H', ⟨by first | omega | exact Nat.le_refl _⟩, by repeat (first | exact Drawn0.refl _ | apply Drawn0.step)⟩
  rw [if_neg c6] at H
  have c6b0 : decide (7 < a2) = false := decide_eq_false c6
  clear c6
  have H' := As H
  clear H
  go_wp2
  go_meet
  case rel => exact ⟨_, (decide (a1 < 0)), kS, H', ⟨by first | omega | exact Nat.le_refl _⟩, by repeat (first | exact Drawn0.refl _ | apply Drawn0.step)⟩
 clear HC4
 obtain ⟨kq, x17_3, rfl, HA, HJ3, ⟨mc3, rfl⟩⟩ := hcut
 cases kq with
 | zero => exact absurd HA.out (by simp [intrusionref01_Get.j0])
 | succ kj3 =>
  have H := HA.out
  clear HA
  simp only [intrusionref01_Get.j0] at H
  by_cases c7 : x17_3 = true
  ·subst c7
   rw [if_pos rfl] at H
   simp only [Option.some.injEq, Prod.mk.injEq] at H
   obtain ⟨rfl, rfl⟩ := H
   go_wp2
   go_ret2
   exact ⟨by first | rfl | (simp; done) | (simp [*]; done), by repeat (first | exact Drawn0.refl _ | apply Drawn0.step)⟩
  replace c7 := Bool.eq_false_iff.mpr c7
  subst c7
  rw [if_neg (show ¬ (false = true) by decide)] at H
  by_cases c8 : a1 > (a0.size : Int)
  ·rw [if_pos c8] at H
   have c8b0 : decide ((a0.size : Int) < a1) = true := decide_eq_true c8
   clear c8
   simp only [Option.some.injEq, Prod.mk.injEq] at H
   obtain ⟨rfl, rfl⟩ := H
   go_wp2
   go_ret2
   exact ⟨by first | rfl | (simp; done) | (simp [*]; done), by repeat (first | exact Drawn0.refl _ | apply Drawn0.step)⟩
  rw [if_neg c8] at H
  have c8b0 : decide ((a0.size : Int) < a1) = false := decide_eq_false c8
  clear c8
  by_cases c9 : (wrap64 ((a0.size : Int) - a1)) < a2
  ·rw [if_pos c9] at H
   have c9b0 : decide ((wrap64 ((a0.size : Int) - a1)) < a2) = true := decide_eq_true c9
   clear c9
   simp only [Option.some.injEq, Prod.mk.injEq] at H
   obtain ⟨rfl, rfl⟩ := H
   go_wp2
   go_ret2
   exact ⟨by first | rfl | (simp; done) | (simp [*]; done), by repeat (first | exact Drawn0.refl _ | apply Drawn0.step)⟩
  rw [if_neg c9] at H
  have c9b0 : decide ((wrap64 ((a0.size : Int) - a1)) < a2) = false := decide_eq_false c9
  clear c9
  replace H := iS H
  obtain ⟨c10, H⟩ := H
  have c10b0 := eq_true c10
  have c10b1 := decide_eq_true c10
  clear c10
  replace H := iS H
  obtain ⟨c11, H⟩ := H
  have c11b0 := eq_true c11
  have c11b1 := decide_eq_true c11
  replace H := iS H
  obtain ⟨c12, H⟩ := H
  have c12b0 := eq_true c12
  have c12b1 := decide_eq_true c12
  replace H := bS H
  obtain ⟨t379, A13, H⟩ := H
  simp only [Option.some.injEq, Prod.mk.injEq] at H
  obtain ⟨rfl, rfl⟩ := H
  go_wp2_with (first | ((with_reducible refine gate_callee (f := 70) rfl ?_); refine goesL_ (some 36) rfl rfl Try.func70 (by kernel_rfl) rfl #[.string (a0.extract (a1 : Int).toNat ((wrap64 (a1 + a2)) : Int).toNat)] rfl kA ?_; (with_reducible refine (intrusionref01_Value.calls kj3 (a0.extract (a1 : Int).toNat ((wrap64 (a1 + a2)) : Int).toNat) t379 _ A13.out).mono ?_); rintro e w' ⟨rfl, ⟨nd, rfl⟩⟩; refine ⟨_, rfl, ?_⟩))
  go_ret2
  exact ⟨by first | rfl | (simp; done) | (simp [*]; done), by repeat (first | exact Drawn0.refl _ | apply Drawn0.step)⟩

/-! ### intrusionref11_number: function 30 -/
def intrusionref11_number.f (k : Nat) (a0 : ByteArray) (a1 : Int) (a2 : Int) : Option (Int) := (intrusionref01_Get.f k a0 a1 a2).bind fun bt380 => (some bt380.1)
theorem intrusionref11_number.mono : ∀ a0 a1 a2 k, LeO (intrusionref11_number.f k a0 a1 a2) (intrusionref11_number.f (k + 1) a0 a1 a2) := by
 intro a0 a1 a2 k
 unfold intrusionref11_number.f
 repeat' first | with_reducible first | apply intrusionref01_Get.mono | apply LeO.refl | apply LeO.none | refine LeO.ite ?_ ?_ | refine LeO.bind ?_ (fun _ => ?_)
set_option maxHeartbeats 8000000 in
set_option maxRecDepth 100000 in
theorem intrusionref11_number.calls (k : Nat) (a0 : ByteArray) (a1 : Int) (a2 : Int) (r : Int) (w : World) (h : intrusionref11_number.f k a0 a1 a2 = some r) :
  Calls Try.prog 30 #[.string a0, .int .i64 a1, .int .i64 a2] w fun e w' => e = .returned (.int .i64 r) ∧ Drawn0 w w' := by
 have H : ((intrusionref01_Get.f k a0 a1 a2).bind fun bt380 => (some bt380.1)) = some r := h
 clear h
 replace H := bS H
 obtain ⟨⟨t380, t381⟩, A4, H⟩ := H
 try dsimp -simprocs only at H
 obtain rfl := Option.some.inj H
 go_enter Try.func30, Try.ntmps30
 go_wp2_with (first | ((with_reducible refine gate_callee (f := 57) rfl ?_); refine goesL_ (some 13) rfl rfl Try.func57 (by kernel_rfl) rfl #[.string a0, .int .i64 a1, .int .i64 a2] rfl kA ?_; (with_reducible refine (intrusionref01_Get.calls k a0 a1 a2 t380 t381 _ A4.out).mono ?_); rintro e w' ⟨rfl, ⟨nd, rfl⟩⟩; refine ⟨_, rfl, ?_⟩))
 go_ret
 exact ⟨by first | rfl | (simp; done) | (simp [*]; done), by repeat (first | exact Drawn0.refl _ | apply Drawn0.step)⟩

/-! ### intrusionref11_Options: function 32 -/
mutual
def intrusionref11_Options.l0 : Nat → ByteArray → List (S50) → Int → Option ((List (S50)) × Bool)
 | 0, _, _, _ => none
 | k + 1, x0, x4, x5 => if x5 < (x0.size : Int) then (if 0 ≤ x5 then (intrusionref11_Options.j1 k x0 x4 x5 ((bt x0 x5) != 0)) else (none)) else (intrusionref11_Options.j1 k x0 x4 x5 false)
def intrusionref11_Options.j1 : Nat → ByteArray → List (S50) → Int → Bool → Option ((List (S50)) × Bool)
 | 0, _, _, _, _ => none
 | k + 1, x0, x4, x5, x17 => if x17 = true then (if 0 ≤ x5 then (if x5 < (x0.size : Int) then (if (bt x0 x5) = 1 then (intrusionref11_Options.l0 k x0 x4 (wrap64 (x5 + 1))) else (if (wrap64 (x5 + 1)) ≥ (x0.size : Int) then (some (([] : List (S50)), false)) else (if 0 ≤ (wrap64 (x5 + 1)) then (if (wrap64 (x5 + 1)) < (x0.size : Int) then (if (bt x0 (wrap64 (x5 + 1))) < 2 then (some (([] : List (S50)), false)) else (if (wrap64 (x5 + (wrap64 (bt x0 (wrap64 (x5 + 1)))))) > (x0.size : Int) then (some (([] : List (S50)), false)) else (if 0 ≤ (wrap64 (x5 + 2)) then (if (wrap64 (x5 + 2)) ≤ (wrap64 (x5 + (wrap64 (bt x0 (wrap64 (x5 + 1)))))) then (if (wrap64 (x5 + (wrap64 (bt x0 (wrap64 (x5 + 1)))))) ≤ (x0.size : Int) then (if x4.length < 5864062014805 then (intrusionref11_Options.l0 k x0 (x4 ++ [(⟨wrap64 (bt x0 x5), x0.extract ((wrap64 (x5 + 2)) : Int).toNat ((wrap64 (x5 + (wrap64 (bt x0 (wrap64 (x5 + 1)))))) : Int).toNat⟩ : S50)]) (wrap64 (x5 + (wrap64 (bt x0 (wrap64 (x5 + 1))))))) else (none)) else (none)) else (none)) else (none)))) else (none)) else (none)))) else (none)) else (none)) else (some (x4, true))
end
def intrusionref11_Options.f (k : Nat) (a0 : ByteArray) : Option ((List (S50)) × Bool) := intrusionref11_Options.l0 k a0 (([] : List (S50))) 0
theorem intrusionref11_Options.mono_l : ∀ k, (∀ y0 y1 y2, LeO (intrusionref11_Options.l0 k y0 y1 y2) (intrusionref11_Options.l0 (k + 1) y0 y1 y2)) ∧ (∀ y0 y1 y2 y3, LeO (intrusionref11_Options.j1 k y0 y1 y2 y3) (intrusionref11_Options.j1 (k + 1) y0 y1 y2 y3))
 | 0 => ⟨fun _ _ _ r h => by simp [intrusionref11_Options.l0] at h, fun _ _ _ _ r h => by simp [intrusionref11_Options.j1] at h⟩
 | k + 1 => by
  obtain ⟨ih0, ih1⟩ := intrusionref11_Options.mono_l k
  refine ⟨?_, ?_⟩
  ·intro y0 y1 y2
   unfold intrusionref11_Options.l0
   repeat' first | with_reducible first | apply ih0 | apply ih1 | apply LeO.refl | apply LeO.none | refine LeO.ite ?_ ?_ | refine LeO.bind ?_ (fun _ => ?_)
  intro y0 y1 y2 y3
  unfold intrusionref11_Options.j1
  repeat' first | with_reducible first | apply ih0 | apply ih1 | apply LeO.refl | apply LeO.none | refine LeO.ite ?_ ?_ | refine LeO.bind ?_ (fun _ => ?_)
theorem intrusionref11_Options.mono : ∀ a0 k, LeO (intrusionref11_Options.f k a0) (intrusionref11_Options.f (k + 1) a0) := by
 intro a0 k
 obtain ⟨ih0, ih1⟩ := intrusionref11_Options.mono_l k
 unfold intrusionref11_Options.f
 repeat' first | with_reducible first | apply ih0 | apply ih1 | apply LeO.refl | apply LeO.none | refine LeO.ite ?_ ?_ | refine LeO.bind ?_ (fun _ => ?_)
def intrusionref11_Options.T9 : Bool × List (List Nat × List Nat) := (true, [([], []), ([], []), ([], []), ([1, 2], [1, 2]), ([3], [3]), ([], []), ([], []), ([6], [6]), ([], []), ([], []), ([8, 9], [8, 9]), ([5, 7, 10], [5, 7, 10]), ([4, 11], [4, 11]), ([12], [12]), ([0, 13], [0, 13]), ([14, 14, 0, 1, 2, 3, 4, 5, 6, 7, 8, 9, 10, 11, 12, 13, 14], [0, 14])])
def intrusionref11_Options.B9 : List Nat := [0, 0, 0, 6, 14, 0, 0, 64, 0, 0, 768, 2016, 4094, 8190, 16383, 32767]
theorem intrusionref11_Options.tab9 : rtab .any (opsOf Try.f32 9) = intrusionref11_Options.T9 := by kernel_rfl
theorem intrusionref11_Options.bits9 : waitsOk intrusionref11_Options.T9.2 intrusionref11_Options.B9 = true := by kernel_rfl
set_option maxHeartbeats 8000000 in
set_option maxRecDepth 100000 in
theorem intrusionref11_Options.calls (k : Nat) (a0 : ByteArray) (r1 : List (S50)) (r2 : Bool) (w : World) (h : intrusionref11_Options.f k a0 = some (r1, r2)) :
  Calls Try.prog 32 #[.string a0] w fun e w' => ∃ v0_ : Value, e = .returned (.tuple #[v0_, .bool r2]) ∧ Kd.R k50 50 w' w.heap.size (fun _ => True) v0_ r1 ∧ Below w.heap.size w w' := by
 have hu50 := Try.underlying50
 have HB := As (Below.refl w.heap.size w)
 have H : (intrusionref11_Options.l0 k a0 (([] : List (S50))) 0) = some (r1, r2) := h
 clear h
 obtain ⟨y384, hy384⟩ : ∃ y_ : List (S50), y_ = (([] : List (S50))) := ⟨_, rfl⟩
 replace H : (intrusionref11_Options.l0 k a0 y384 0) = some (r1, r2) := by first | (rw [hy384]; with_reducible exact H) | (have H2_ := (Option.bind_some _ _).symm.trans H; rw [hy384]; with_reducible exact H2_) | (have H2_ := (Option.bind_some _ _).symm.trans H; with_reducible exact H2_) | with_reducible exact H | (rw [hy384]; exact H) | exact H
 have Ny384 := As hy384
 clear hy384
 have H' := As H
 clear H
 go_enter Try.func32, Try.ntmps32
 go_wp2_with (first | ((with_reducible refine gate_dst (N := 7) rfl ?_); (try (refine gate_guard (by rfl) ?_; dsimp only)); refine Kd.R_lit k50 _ 50 rfl (N := 7) rfl (xs := ([] : List (S50))) (inner := []) (ok := fun _ => True) (okp := fun _ => True) kG ?hp (fun _ hk => hk) trivial (Below.refl _ _) (Nat.le_refl _) (by simp) ?_; (case hp => exact (Reps.none _ _)); intro v385 w2 ho3 hb hg_ hnew_; clear hg_ hnew_; (first | rw [← Ny384.out] at ho3 | (simp only [Int.reduceToNat] at ho3; rw [← Ny384.out] at ho3)); have HO386 := As (Kd.R_lower ho3 (below_size (kB HB.out))); replace HB := As (below_step (kB HB.out) hb); clear hb ho3))
 go_loopg [4, 5] k (fun kq v4 v5 w' => ∃ (x4_1 : List (S50)) (x5_1 : Int), v5 = .int .i64 x5_1 ∧ Aside0 (intrusionref11_Options.l0 kq a0 x4_1 x5_1 = some (r1, r2)) ∧ Aside0 (kq ≤ k) ∧ Aside0 (Kd.R k50 50 w' w.heap.size (fun _ => True) v4 x4_1) ∧ Aside0 (Below w.heap.size w w'))
 case atStart => exact ⟨(y384), (0), kS, H', ⟨Nat.le_refl _⟩, ⟨by (with_reducible repeat (first | apply Kd.R_alloc | apply Kd.R_drewN | apply Kd.R_drew)); exact HO386.out⟩, ⟨kB HB.out⟩⟩
 clear H'
 obtain ⟨x4_1, x5_1, rfl, HA, HK1, HO_4, HB⟩ := hrel
 cases gk with
 | zero => exact absurd HA.out (by simp [intrusionref11_Options.l0])
 | succ k1 =>
  have H := HA.out
  clear HA
  simp only [intrusionref11_Options.l0] at H
  have HC4 := As H
  clear H
  go_upto_region 3 with (fail)
  go_cut [17] (fun v17 wc => ∃ (kq : Nat) (x17_3 : Bool), v17 = .bool x17_3 ∧ Aside0 (intrusionref11_Options.j1 kq a0 x4_1 x5_1 x17_3 = some (r1, r2)) ∧ Aside0 (kq ≤ k1) ∧ Aside0 (Kd.R k50 50 wc w.heap.size (fun _ => True) u4 x4_1) ∧ Aside0 (Below w.heap.size w wc))
  case first =>
   have H := HC4.out
   clear HC4
   by_cases c5 : x5_1 < (a0.size : Int)
   ·rw [if_pos c5] at H
    have c5b0 : decide (x5_1 < (a0.size : Int)) = true := decide_eq_true c5
    clear c5
    (first | rw [c5b0] | (simp only [i64_w, i32_w]; rw [c5b0]) | skip)
    replace H := iS H
    obtain ⟨c6, H⟩ := H
    have c6b0 := decide_eq_true c6
    clear c6
    have H' := As H
    clear H
    have p7 : 0 ≤ (x5_1 : Int) := of_decide_eq_true (by first | (with_reducible assumption) | assumption)
    have q7 : x5_1 < (a0.size : Int) := of_decide_eq_true (by first | (with_reducible assumption) | assumption)
    have hx7 := bt_at a0 x5_1
    replace p7 := eq_true p7
    replace q7 := eq_true q7
    go_wp2
    go_meet
    case rel => exact ⟨_, (((bt a0 x5_1) != 0)), kS, H', ⟨by have := HK1.out; first | omega | exact Nat.le_refl _⟩, ⟨by (with_reducible repeat (first | apply Kd.R_alloc | apply Kd.R_drewN | apply Kd.R_drew)); exact HO_4.out⟩, ⟨kB HB.out⟩⟩
   rw [if_neg c5] at H
   have c5b0 : decide (x5_1 < (a0.size : Int)) = false := decide_eq_false c5
   clear c5
   (first | rw [c5b0] | (simp only [i64_w, i32_w]; rw [c5b0]) | skip)
   have H' := As H
   clear H
   go_wp2
   go_meet
   case rel => exact ⟨_, (false), kS, H', ⟨by have := HK1.out; first | omega | exact Nat.le_refl _⟩, ⟨by (with_reducible repeat (first | apply Kd.R_alloc | apply Kd.R_drewN | apply Kd.R_drew)); exact HO_4.out⟩, ⟨kB HB.out⟩⟩
  clear HC4
  obtain ⟨kq, x17_3, rfl, HA, HJ3, HO_4, HB⟩ := hcut
  cases kq with
  | zero => exact absurd HA.out (by simp [intrusionref11_Options.j1])
  | succ kj3 =>
   have H := HA.out
   clear HA
   simp only [intrusionref11_Options.j1] at H
   by_cases c8 : x17_3 = true
   ·subst c8
    rw [if_pos rfl] at H
    replace H := iS H
    obtain ⟨c9, H⟩ := H
    have c9b0 := decide_eq_true c9
    clear c9
    replace H := iS H
    obtain ⟨c10, H⟩ := H
    have c10b0 := decide_eq_true c10
    clear c10
    by_cases c12 : (bt a0 x5_1) = 1
    ·rw [if_pos c12] at H
     have c12b0 : ((bt a0 x5_1) == 1) = true := beq_iff_eq.mpr c12
     have c12b1 : ((bt a0 x5_1) != 1) = false := bne_eq_false_iff_eq.mpr c12
     clear c12
     have H' := As H
     clear H
     have p11 : 0 ≤ (x5_1 : Int) := of_decide_eq_true (by first | (with_reducible assumption) | assumption)
     have q11 : x5_1 < (a0.size : Int) := of_decide_eq_true (by first | (with_reducible assumption) | assumption)
     have hx11 := bt_at a0 x5_1
     replace p11 := eq_true p11
     replace q11 := eq_true q11
     go_wp2
     go_roundg kj3
     case measure => have := HK1.out; have := HJ3.out; omega
     case rel => exact ⟨(x4_1), (wrap64 (x5_1 + 1)), kS, H', ⟨by have := HK1.out; have := HJ3.out; omega⟩, ⟨by (with_reducible repeat (first | apply Kd.R_alloc | apply Kd.R_drewN | apply Kd.R_drew)); exact HO_4.out⟩, ⟨kB HB.out⟩⟩
    rw [if_neg c12] at H
    have c12b0 : ((bt a0 x5_1) == 1) = false := beq_eq_false_iff_ne.mpr c12
    have c12b1 : ((bt a0 x5_1) != 1) = true := bne_iff_ne.mpr c12
    by_cases c13 : (wrap64 (x5_1 + 1)) ≥ (a0.size : Int)
    ·rw [if_pos c13] at H
     have c13b0 : decide ((a0.size : Int) ≤ (wrap64 (x5_1 + 1))) = true := decide_eq_true c13
     clear c13
     simp only [Option.some.injEq, Prod.mk.injEq] at H
     obtain ⟨rfl, rfl⟩ := H
     have p11 : 0 ≤ (x5_1 : Int) := of_decide_eq_true (by first | (with_reducible assumption) | assumption)
     have q11 : x5_1 < (a0.size : Int) := of_decide_eq_true (by first | (with_reducible assumption) | assumption)
     have hx11 := bt_at a0 x5_1
     replace p11 := eq_true p11
     replace q11 := eq_true q11
     go_wp2
     go_ret2
     exact ⟨_, kE, by first | exact Kd.R_nil _ _ _ _ _ | exact Kd.N_nil _ _ _ _ _ | exact Kd.V_nil _ _ _ _ _ | exact Kd.Q_nil _ _ _ _ _ | exact Kd.S_nil _ _ _ _ _, by exact kB HB.out⟩
    rw [if_neg c13] at H
    have c13b0 : decide ((a0.size : Int) ≤ (wrap64 (x5_1 + 1))) = false := decide_eq_false c13
    clear c13
    obtain ⟨ji14, hji14⟩ : ∃ j_ : Int, (wrap64 (x5_1 + 1)) = j_ := ⟨_, rfl⟩
    replace H : (if 0 ≤ (ji14) then (if (ji14) < (a0.size : Int) then (if (bt a0 (ji14)) < 2 then (some (([] : List (S50)), false)) else (if (wrap64 (x5_1 + (wrap64 (bt a0 (ji14))))) > (a0.size : Int) then (some (([] : List (S50)), false)) else (if 0 ≤ (wrap64 (x5_1 + 2)) then (if (wrap64 (x5_1 + 2)) ≤ (wrap64 (x5_1 + (wrap64 (bt a0 (ji14))))) then (if (wrap64 (x5_1 + (wrap64 (bt a0 (ji14))))) ≤ (a0.size : Int) then (if x4_1.length < 5864062014805 then (intrusionref11_Options.l0 kj3 a0 (x4_1 ++ [(⟨wrap64 (bt a0 x5_1), a0.extract ((wrap64 (x5_1 + 2)) : Int).toNat ((wrap64 (x5_1 + (wrap64 (bt a0 (ji14))))) : Int).toNat⟩ : S50)]) (wrap64 (x5_1 + (wrap64 (bt a0 (ji14)))))) else (none)) else (none)) else (none)) else (none)))) else (none)) else (none)) = some (r1, r2) := by first | (rw [hji14] at H; exact H) | (simp only [hji14] at H ⊢; exact H)
    (try rw [hji14] at c13b0)
    have hji14w : (IntKind.i64.wrap (x5_1 + 1)) = ji14 := (i64_w _).trans hji14
    replace H := iS H
    obtain ⟨c15, H⟩ := H
    have c15b0 := decide_eq_true c15
    clear c15
    replace H := iS H
    obtain ⟨c16, H⟩ := H
    have c16b0 := decide_eq_true c16
    clear c16
    by_cases c18 : (bt a0 (ji14)) < 2
    ·rw [if_pos c18] at H
     have c18b0 : decide ((bt a0 (ji14)) < 2) = true := decide_eq_true c18
     clear c18
     simp only [Option.some.injEq, Prod.mk.injEq] at H
     obtain ⟨rfl, rfl⟩ := H
     have p11 : 0 ≤ (x5_1 : Int) := of_decide_eq_true (by first | (with_reducible assumption) | assumption)
     have q11 : x5_1 < (a0.size : Int) := of_decide_eq_true (by first | (with_reducible assumption) | assumption)
     have hx11 := bt_at a0 x5_1
     replace p11 := eq_true p11
     replace q11 := eq_true q11
     have p17 : 0 ≤ ((ji14) : Int) := of_decide_eq_true (by first | (with_reducible assumption) | assumption)
     have q17 : (ji14) < (a0.size : Int) := of_decide_eq_true (by first | (with_reducible assumption) | assumption)
     have hx17 := bt_at a0 (ji14)
     replace p17 := eq_true p17
     replace q17 := eq_true q17
     go_wp2
     go_ret2
     exact ⟨_, by first | rfl | (simp [errW_none, errW_some] <;> rfl) | (simp only [← hji14]; first | rfl | (simp [errW_none, errW_some] <;> rfl)) | (simp [*, errW_none, errW_some] <;> rfl), by first | exact Kd.R_nil _ _ _ _ _ | exact Kd.N_nil _ _ _ _ _ | exact Kd.V_nil _ _ _ _ _ | exact Kd.Q_nil _ _ _ _ _ | exact Kd.S_nil _ _ _ _ _, by exact kB HB.out⟩
    rw [if_neg c18] at H
    have c18b0 : decide ((bt a0 (ji14)) < 2) = false := decide_eq_false c18
    clear c18
    by_cases c20 : (wrap64 (x5_1 + (wrap64 (bt a0 (ji14))))) > (a0.size : Int)
    ·rw [if_pos c20] at H
     have c20b0 : decide ((a0.size : Int) < (wrap64 (x5_1 + (wrap64 (bt a0 (ji14)))))) = true := decide_eq_true c20
     clear c20
     simp only [Option.some.injEq, Prod.mk.injEq] at H
     obtain ⟨rfl, rfl⟩ := H
     have p11 : 0 ≤ (x5_1 : Int) := of_decide_eq_true (by first | (with_reducible assumption) | assumption)
     have q11 : x5_1 < (a0.size : Int) := of_decide_eq_true (by first | (with_reducible assumption) | assumption)
     have hx11 := bt_at a0 x5_1
     replace p11 := eq_true p11
     replace q11 := eq_true q11
     have p17 : 0 ≤ ((ji14) : Int) := of_decide_eq_true (by first | (with_reducible assumption) | assumption)
     have q17 : (ji14) < (a0.size : Int) := of_decide_eq_true (by first | (with_reducible assumption) | assumption)
     have hx17 := bt_at a0 (ji14)
     replace p17 := eq_true p17
     replace q17 := eq_true q17
     have p19 : 0 ≤ ((ji14) : Int) := of_decide_eq_true (by first | (with_reducible assumption) | assumption)
     have q19 : (ji14) < (a0.size : Int) := of_decide_eq_true (by first | (with_reducible assumption) | assumption)
     have hx19 := bt_at a0 (ji14)
     replace p19 := eq_true p19
     replace q19 := eq_true q19
     go_wp2
     go_ret2
     exact ⟨_, by first | rfl | (simp [errW_none, errW_some] <;> rfl) | (simp only [← hji14]; first | rfl | (simp [errW_none, errW_some] <;> rfl)) | (simp [*, errW_none, errW_some] <;> rfl), by first | exact Kd.R_nil _ _ _ _ _ | exact Kd.N_nil _ _ _ _ _ | exact Kd.V_nil _ _ _ _ _ | exact Kd.Q_nil _ _ _ _ _ | exact Kd.S_nil _ _ _ _ _, by exact kB HB.out⟩
    rw [if_neg c20] at H
    have c20b0 : decide ((a0.size : Int) < (wrap64 (x5_1 + (wrap64 (bt a0 (ji14)))))) = false := decide_eq_false c20
    clear c20
    obtain ⟨ji23, hji23⟩ : ∃ j_ : Int, (wrap64 (x5_1 + 2)) = j_ := ⟨_, rfl⟩
    replace H : (if 0 ≤ (ji23) then (if (ji23) ≤ (wrap64 (x5_1 + (wrap64 (bt a0 (ji14))))) then (if (wrap64 (x5_1 + (wrap64 (bt a0 (ji14))))) ≤ (a0.size : Int) then (if x4_1.length < 5864062014805 then (intrusionref11_Options.l0 kj3 a0 (x4_1 ++ [(⟨wrap64 (bt a0 x5_1), a0.extract ((ji23) : Int).toNat ((wrap64 (x5_1 + (wrap64 (bt a0 (ji14))))) : Int).toNat⟩ : S50)]) (wrap64 (x5_1 + (wrap64 (bt a0 (ji14)))))) else (none)) else (none)) else (none)) else (none)) = some (r1, r2) := by first | (rw [hji23] at H; exact H) | (simp only [hji23] at H ⊢; exact H)
    have hji23w : (IntKind.i64.wrap (x5_1 + 2)) = ji23 := (i64_w _).trans hji23
    replace H := iS H
    obtain ⟨c24, H⟩ := H
    have c24b0 := eq_true c24
    have c24b1 := decide_eq_true c24
    clear c24
    replace H := iS H
    obtain ⟨c25, H⟩ := H
    have c25b0 := eq_true c25
    have c25b1 := decide_eq_true c25
    replace H := iS H
    obtain ⟨c26, H⟩ := H
    have c26b0 := eq_true c26
    have c26b1 := decide_eq_true c26
    replace H := iS H
    obtain ⟨c27, H⟩ := H
    have LMc27 := As c27
    clear c27
    obtain ⟨y387, hy387⟩ : ∃ y_ : List (S50), y_ = (x4_1 ++ [(⟨wrap64 (bt a0 x5_1), a0.extract ((ji23) : Int).toNat ((wrap64 (x5_1 + (wrap64 (bt a0 (ji14))))) : Int).toNat⟩ : S50)]) := ⟨_, rfl⟩
    replace H : (intrusionref11_Options.l0 kj3 a0 y387 (wrap64 (x5_1 + (wrap64 (bt a0 (ji14)))))) = some (r1, r2) := by first | (rw [hy387]; with_reducible exact H) | (have H2_ := (Option.bind_some _ _).symm.trans H; rw [hy387]; with_reducible exact H2_) | (have H2_ := (Option.bind_some _ _).symm.trans H; with_reducible exact H2_) | with_reducible exact H | (rw [hy387]; exact H) | exact H
    have Ny387 := As hy387
    clear hy387
    have H' := As H
    clear H
    have p11 : 0 ≤ (x5_1 : Int) := of_decide_eq_true (by first | (with_reducible assumption) | assumption)
    have q11 : x5_1 < (a0.size : Int) := of_decide_eq_true (by first | (with_reducible assumption) | assumption)
    have hx11 := bt_at a0 x5_1
    replace p11 := eq_true p11
    replace q11 := eq_true q11
    have p17 : 0 ≤ ((ji14) : Int) := of_decide_eq_true (by first | (with_reducible assumption) | assumption)
    have q17 : (ji14) < (a0.size : Int) := of_decide_eq_true (by first | (with_reducible assumption) | assumption)
    have hx17 := bt_at a0 (ji14)
    replace p17 := eq_true p17
    replace q17 := eq_true q17
    have p19 : 0 ≤ ((ji14) : Int) := of_decide_eq_true (by first | (with_reducible assumption) | assumption)
    have q19 : (ji14) < (a0.size : Int) := of_decide_eq_true (by first | (with_reducible assumption) | assumption)
    have hx19 := bt_at a0 (ji14)
    replace p19 := eq_true p19
    replace q19 := eq_true q19
    have p21 : 0 ≤ ((ji14) : Int) := of_decide_eq_true (by first | (with_reducible assumption) | assumption)
    have q21 : (ji14) < (a0.size : Int) := of_decide_eq_true (by first | (with_reducible assumption) | assumption)
    have hx21 := bt_at a0 (ji14)
    replace p21 := eq_true p21
    replace q21 := eq_true q21
    try go_wp2
    replace HO_4 := As (Kd.R_drew HO_4.out)
    replace HB := As (below_drew1 HB.out)
    have p22 : 0 ≤ (x5_1 : Int) := of_decide_eq_true (by first | (with_reducible assumption) | assumption)
    have q22 : x5_1 < (a0.size : Int) := of_decide_eq_true (by first | (with_reducible assumption) | assumption)
    have hx22 := bt_at a0 x5_1
    replace p22 := eq_true p22
    replace q22 := eq_true q22
    refine start_ (n := 16) (S := fun w' => True) (ds := []) #[O, O, O, O, O, O, O, O, O, O, O, O, O, O, O, O] (by kernel_rfl) rfl rfl trivial (fun hHeld => ?_); refine with_tabW intrusionref11_Options.tab9 intrusionref11_Options.bits9 (fun HT_ HW_ => ?_)
    generalize wc.drew = w28 at HO_4 HB hHeld ⊢
    refine kP 0 53 #[I, O, O, O, O, O, O, O, O, O, O, O, O, O, O, O] ?_ (any_of HT_.out (by kernel_rfl))
    refine kP 1 54 #[I, I, O, O, O, O, O, O, O, O, O, O, O, O, O, O] ?_ (any_of HT_.out (by kernel_rfl))
    refine kP 2 55 #[I, I, I, O, O, O, O, O, O, O, O, O, O, O, O, O] ?_ (any_of HT_.out (by kernel_rfl))
    refine kP 5 58 #[I, I, I, O, O, I, O, O, O, O, O, O, O, O, O, O] ?_ (any_of HT_.out (by kernel_rfl))
    refine kP 6 59 #[I, I, I, O, O, I, I, O, O, O, O, O, O, O, O, O] ?_ (any_of HT_.out (by kernel_rfl))
    refine kP 7 60 #[I, I, I, O, O, I, I, I, O, O, O, O, O, O, O, O] ?_ (any_of HT_.out (by kernel_rfl))
    refine kP 8 61 #[I, I, I, O, O, I, I, I, I, O, O, O, O, O, O, O] ?_ (any_of HT_.out (by kernel_rfl))
    refine kP 9 62 #[I, I, I, O, O, I, I, I, I, I, O, O, O, O, O, O] ?_ (any_of HT_.out (by kernel_rfl))
    refine kP 10 63 #[I, I, I, O, O, I, I, I, I, I, I, O, O, O, O, O] ?_ (any_of HT_.out (by kernel_rfl))
    refine kP 11 64 #[I, I, I, O, O, I, I, I, I, I, I, I, O, O, O, O] ?_ (any_of HT_.out (by kernel_rfl))
    refine take_ (i := 3) (N := some 56) (v := ?_) (a' := ?_) #[I, I, I, I, O, I, I, I, I, I, I, I, O, O, O, O] rfl rfl (take_ofW HT_.out HW_.out (by kernel_rfl)) (fun _ _ _ h => h) (Or.inl ⟨by rfl, ?_⟩) hHeld ?_ ?_
    rotate_left
    ·intro w' _
     go_simp
     with_reducible rfl
    rotate_left
    ·simp only [Act.put, sA, sZ, sS, i64_w, i32_w]
     rfl
    refine kP 4 57 #[I, I, I, I, I, I, I, I, I, I, I, I, O, O, O, O] ?_ (any_of HT_.out (by kernel_rfl))
    refine kP 12 65 #[I, I, I, I, I, I, I, I, I, I, I, I, I, O, O, O] ?_ (any_of HT_.out (by kernel_rfl))
    refine one_ (i := 13) (N := some 66) #[I, I, I, I, I, I, I, I, I, I, I, I, I, I, O, O] rfl rfl (one_of HT_.out (by kernel_rfl)) (by decide) (fun K hK => ?_)
    refine value_ (w1 := ?_) (v := ?_) (by rfl) rfl ?_ ?_
    rotate_left 2
    ·go_simp
     constructor
     ·rfl
     rfl
    refine hK.out _ _ trivial (fun hHeld => ?_)
    clear hK K
    refine nP ?_
    refine one_ (i := 14) (N := some 67) #[I, I, I, I, I, I, I, I, I, I, I, I, I, I, I, O] rfl rfl (one_of HT_.out (by kernel_rfl)) (by decide) (fun K hK => ?_)
    refine Kd.R_append_step k50 (w0 := w) w.heap.size (by rfl) (.tmp 53) (.tmp 66) 26 50 (.agg #[(.int .i64 0), (.string ⟨#[]⟩)]) 24 rfl Try.underlying26 info50 rfl (by decide) (by omega) u4 x4_1 (⟨wrap64 (bt a0 x5_1), a0.extract ((ji23) : Int).toNat ((wrap64 (x5_1 + (wrap64 (bt a0 (ji14))))) : Int).toNat⟩ : S50) [.int .i64 (wrap64 (bt a0 x5_1)), .string (a0.extract ((ji23) : Int).toNat ((wrap64 (x5_1 + (wrap64 (bt a0 (ji14))))) : Int).toNat)] (fun _ => True) (fun _ => False) rfl rfl ?aP (fun _ hk => hk.elim) ?aF ?aO ?aB ?aS ?aL ?_
    (case aP => exact k50_mkM _ _ _ (⟨wrap64 (bt a0 x5_1), a0.extract ((ji23) : Int).toNat ((wrap64 (x5_1 + (wrap64 (bt a0 (ji14))))) : Int).toNat⟩ : S50))
    (case aB => exact (kB HB.out))
    (case aF => exact (fun _ _ => trivial))
    (case aO => exact (kR HO_4.out))
    (case aS => exact (below_size (kB HB.out)))
    (case aL => have := LMc27.out; omega)
    intro v388 w29 ho hb hg hat
    rw [← Ny387.out] at ho
    replace HB := As (hb)
    have HO389 := As (ho)
    clear HO_4
    clear ho hb hg hat
    refine hK.out _ _ trivial (fun hHeld => ?_)
    clear hK K
    refine nP ?_
    refine kP 15 4 #[I, I, I, I, I, I, I, I, I, I, I, I, I, I, I, I] ?_ (any_of HT_.out (by kernel_rfl))
    refine done_ (done_of HT_.out (by kernel_rfl)) ?_
    try go_wp2
    go_roundg kj3
    case measure => have := HK1.out; have := HJ3.out; omega
    case rel => exact ⟨(y387), (wrap64 (x5_1 + (wrap64 (bt a0 (ji14))))), (by first | rfl | (simp; done) | (simp only [← hji14] <;> (first | rfl | simp)) | (simp [*]; done)), H', ⟨by have := HK1.out; have := HJ3.out; omega⟩, ⟨by (with_reducible repeat (first | apply Kd.R_alloc | apply Kd.R_drewN | apply Kd.R_drew)); exact HO389.out⟩, ⟨kB HB.out⟩⟩
   replace c8 := Bool.eq_false_iff.mpr c8
   subst c8
   rw [if_neg (show ¬ (false = true) by decide)] at H
   simp only [Option.some.injEq, Prod.mk.injEq] at H
   obtain ⟨rfl, rfl⟩ := H
   go_wp2
   go_ret2
   exact ⟨_, kE, by (with_reducible repeat (first | apply Kd.R_alloc | apply Kd.R_drewN | apply Kd.R_drew)); exact HO_4.out, by exact kB HB.out⟩

end Go.Proofs.Ytobioaommmgehaa.X
-- short
-- short2
