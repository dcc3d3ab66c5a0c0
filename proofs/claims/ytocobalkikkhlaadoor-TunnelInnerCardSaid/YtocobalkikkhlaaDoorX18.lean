/- Functions and their walks, printed by xprint.py. -/
import Derived.Test.YtocobalkikkhlaaDoorX0
import Derived.Test.YtocobalkikkhlaaDoorX13
namespace Go.Proofs.YtocobalkikkhlaaDoor.X
open Go.RowKit Go.Proofs.YtocobalkikkhlaaDoorW.PrintWords Go.Proofs.YtocobalkikkhlaaDoorW.PrintLast Go.Proofs.YtocobalkikkhlaaDoorW.PrintMore
attribute [local go_sem] max2_int min2_int max_two min_two max_three min_three max_four min_four   -- for this text's walks alone
set_option linter.unusedVariables false
set_option linter.unusedSimpArgs false

/-! ### intrusionref17_packet: function 44 -/
def intrusionref17_packet.f (a0 : ByteArray) (a1 : Int) (a2 : Int) : Option (Int × ByteArray × Int) := if a0.toList = ([] : List UInt8) then (some (0, (⟨#[]⟩ : ByteArray), 1)) else (if 0 < (a0.size : Int) then (if (wrap64 (Int.tdiv (wrap64 (bt a0 0)) 16)) = a1 then (some (a2, a0, 0)) else (some (0, (⟨#[]⟩ : ByteArray), 2))) else (none))
set_option maxHeartbeats 8000000 in
set_option maxRecDepth 100000 in
theorem intrusionref17_packet.calls (a0 : ByteArray) (a1 : Int) (a2 : Int) (r1 : Int) (r2 : ByteArray) (r3 : Int) (w : World) (h : intrusionref17_packet.f a0 a1 a2 = some (r1, r2, r3)) :
  Calls Tryd.prog 44 #[.string a0, .int .i64 a1, .int .i64 a2] w fun e w' => e = .returned (.tuple #[.int .i64 r1, .string r2, .int .i64 r3]) ∧ Drawn0 w w' := by
 have H : (if a0.toList = ([] : List UInt8) then (some (0, (⟨#[]⟩ : ByteArray), 1)) else (if 0 < (a0.size : Int) then (if (wrap64 (Int.tdiv (wrap64 (bt a0 0)) 16)) = a1 then (some (a2, a0, 0)) else (some (0, (⟨#[]⟩ : ByteArray), 2))) else (none))) = some (r1, r2, r3) := h
 clear h
 by_cases c4 : a0.toList = ([] : List UInt8)
 ·rw [if_pos c4] at H
  have c4b0 : (a0.toList == ([] : List UInt8)) = true := beq_iff_eq.mpr c4
  have c4b1 : (a0.toList != ([] : List UInt8)) = false := bne_eq_false_iff_eq.mpr c4
  have c4b2 : (!a0.toList.isEmpty) = false := by simp [c4]
  have c4b3 : a0.toList.isEmpty = true := by simp [c4]
  clear c4
  simp only [Option.some.injEq, Prod.mk.injEq] at H
  obtain ⟨rfl, rfl, rfl⟩ := H
  go_enter Tryd.func44, Tryd.ntmps44
  go_wp2
  go_ret3
  exact ⟨by first | rfl | (simp; done) | (simp [*]; done), by repeat (first | exact Drawn0.refl _ | apply Drawn0.step)⟩
 rw [if_neg c4] at H
 have c4b0 : (a0.toList == ([] : List UInt8)) = false := beq_eq_false_iff_ne.mpr c4
 have c4b1 : (a0.toList != ([] : List UInt8)) = true := bne_iff_ne.mpr c4
 have c4b2 : (!a0.toList.isEmpty) = true := by simp [c4]
 have c4b3 : a0.toList.isEmpty = false := by simp [c4]
 by_cases c5 : 0 < (a0.size : Int)
 ·rw [if_pos c5] at H
  have c5b0 : decide (0 < (a0.size : Int)) = true := decide_eq_true c5
  have c5b1 : decide (0 < a0.size) = true := decide_eq_true (by omega)
  clear c5
  by_cases c7 : (wrap64 (Int.tdiv (wrap64 (bt a0 0)) 16)) = a1
  ·rw [if_pos c7] at H
   have c7b0 : ((wrap64 (Int.tdiv (wrap64 (bt a0 0)) 16)) == a1) = true := beq_iff_eq.mpr c7
   have c7b1 : ((wrap64 (Int.tdiv (wrap64 (bt a0 0)) 16)) != a1) = false := bne_eq_false_iff_eq.mpr c7
   clear c7
   simp only [Option.some.injEq, Prod.mk.injEq] at H
   obtain ⟨rfl, rfl, rfl⟩ := H
   have p6 : 0 ≤ (0 : Int) := (by omega)
   have q6 : 0 < a0.size := (by have : (0 : Int) < (a0.size : Int) := of_decide_eq_true (by first | (with_reducible assumption) | assumption); omega)
   have hx6 : ∀ h : 0 < a0.size, ((a0[0]'h).toNat : Int) = bt a0 0 := bt_at a0 0
   clear p6
   have qi6 : (0 < (a0.size : Int)) = True := eq_true (of_decide_eq_true (by first | (with_reducible assumption) | assumption))
   replace q6 := eq_true q6
   go_enter Tryd.func44, Tryd.ntmps44
   go_wp2
   go_ret3
   exact ⟨by first | rfl | (simp; done) | (simp [*]; done), by repeat (first | exact Drawn0.refl _ | apply Drawn0.step)⟩
  rw [if_neg c7] at H
  have c7b0 : ((wrap64 (Int.tdiv (wrap64 (bt a0 0)) 16)) == a1) = false := beq_eq_false_iff_ne.mpr c7
  have c7b1 : ((wrap64 (Int.tdiv (wrap64 (bt a0 0)) 16)) != a1) = true := bne_iff_ne.mpr c7
  simp only [Option.some.injEq, Prod.mk.injEq] at H
  obtain ⟨rfl, rfl, rfl⟩ := H
  have p6 : 0 ≤ (0 : Int) := (by omega)
  have q6 : 0 < a0.size := (by have : (0 : Int) < (a0.size : Int) := of_decide_eq_true (by first | (with_reducible assumption) | assumption); omega)
  have hx6 : ∀ h : 0 < a0.size, ((a0[0]'h).toNat : Int) = bt a0 0 := bt_at a0 0
  clear p6
  have qi6 : (0 < (a0.size : Int)) = True := eq_true (of_decide_eq_true (by first | (with_reducible assumption) | assumption))
  replace q6 := eq_true q6
  go_enter Tryd.func44, Tryd.ntmps44
  go_wp2
  go_ret3
  exact ⟨by first | rfl | (simp; done) | (simp [*]; done), by repeat (first | exact Drawn0.refl _ | apply Drawn0.step)⟩
 rw [if_neg c5] at H
 exact absurd H (by simp)

/-! ### intrusionref17_kindOf: function 50 -/
def intrusionref17_kindOf.f (a0 : Int) : Option (Int) := if a0 = 2048 then (some 1) else (if a0 = 34525 then (some 2) else (if a0 = 25944 then (some 3) else (some 0)))
set_option maxHeartbeats 8000000 in
set_option maxRecDepth 100000 in
theorem intrusionref17_kindOf.calls (a0 : Int) (r : Int) (w : World) (h : intrusionref17_kindOf.f a0 = some r) :
  Calls Tryd.prog 50 #[.int .i64 a0] w fun e w' => e = .returned (.int .i64 r) ∧ Drawn0 w w' := by
 have H : (if a0 = 2048 then (some 1) else (if a0 = 34525 then (some 2) else (if a0 = 25944 then (some 3) else (some 0)))) = some r := h
 clear h
 by_cases c2 : a0 = 2048
 ·rw [if_pos c2] at H
  have c2b0 : (a0 == 2048) = true := beq_iff_eq.mpr c2
  have c2b1 : (a0 != 2048) = false := bne_eq_false_iff_eq.mpr c2
  clear c2
  obtain rfl := Option.some.inj H
  go_enter Tryd.func50, Tryd.ntmps50
  go_wp2
  go_ret
  exact ⟨by first | rfl | (simp; done) | (simp [*]; done), by repeat (first | exact Drawn0.refl _ | apply Drawn0.step)⟩
 rw [if_neg c2] at H
 have c2b0 : (a0 == 2048) = false := beq_eq_false_iff_ne.mpr c2
 have c2b1 : (a0 != 2048) = true := bne_iff_ne.mpr c2
 by_cases c3 : a0 = 34525
 ·rw [if_pos c3] at H
  have c3b0 : (a0 == 34525) = true := beq_iff_eq.mpr c3
  have c3b1 : (a0 != 34525) = false := bne_eq_false_iff_eq.mpr c3
  clear c3
  obtain rfl := Option.some.inj H
  go_enter Tryd.func50, Tryd.ntmps50
  go_wp2
  go_ret
  exact ⟨by first | rfl | (simp; done) | (simp [*]; done), by repeat (first | exact Drawn0.refl _ | apply Drawn0.step)⟩
 rw [if_neg c3] at H
 have c3b0 : (a0 == 34525) = false := beq_eq_false_iff_ne.mpr c3
 have c3b1 : (a0 != 34525) = true := bne_iff_ne.mpr c3
 by_cases c4 : a0 = 25944
 ·rw [if_pos c4] at H
  have c4b0 : (a0 == 25944) = true := beq_iff_eq.mpr c4
  have c4b1 : (a0 != 25944) = false := bne_eq_false_iff_eq.mpr c4
  clear c4
  obtain rfl := Option.some.inj H
  go_enter Tryd.func50, Tryd.ntmps50
  go_wp2
  go_ret
  exact ⟨by first | rfl | (simp; done) | (simp [*]; done), by repeat (first | exact Drawn0.refl _ | apply Drawn0.step)⟩
 rw [if_neg c4] at H
 have c4b0 : (a0 == 25944) = false := beq_eq_false_iff_ne.mpr c4
 have c4b1 : (a0 != 25944) = true := bne_iff_ne.mpr c4
 obtain rfl := Option.some.inj H
 go_enter Tryd.func50, Tryd.ntmps50
 go_wp2
 go_ret
 exact ⟨by first | rfl | (simp; done) | (simp [*]; done), by repeat (first | exact Drawn0.refl _ | apply Drawn0.step)⟩

/-! ### intrusionref01_Value: function 88 -/
def intrusionref01_Value.l0 : Nat → ByteArray → Int → Int → Option (Int)
 | 0, _, _, _ => none
 | k + 1, x0, x3, x4 => if x4 < (x0.size : Int) then (if 0 ≤ x4 then (intrusionref01_Value.l0 k x0 (wrap64 ((wrap64 (x3 * 256)) + (wrap64 (bt x0 x4)))) (wrap64 (x4 + 1))) else (none)) else (some x3)
def intrusionref01_Value.f (k : Nat) (a0 : ByteArray) : Option (Int) := intrusionref01_Value.l0 k a0 0 0
theorem intrusionref01_Value.mono_l : ∀ k, (∀ y0 y1 y2, LeO (intrusionref01_Value.l0 k y0 y1 y2) (intrusionref01_Value.l0 (k + 1) y0 y1 y2))
 | 0 => fun _ _ _ r h => by simp [intrusionref01_Value.l0] at h
 | k + 1 => by
  have ih0 := intrusionref01_Value.mono_l k
  intro y0 y1 y2
  unfold intrusionref01_Value.l0
  repeat' first | with_reducible first | apply ih0 | apply LeO.refl | apply LeO.none | refine LeO.ite ?_ ?_ | refine LeO.bind ?_ (fun _ => ?_)
theorem intrusionref01_Value.mono : ∀ a0 k, LeO (intrusionref01_Value.f k a0) (intrusionref01_Value.f (k + 1) a0) := by
 intro a0 k
 have ih0 := intrusionref01_Value.mono_l k
 unfold intrusionref01_Value.f
 repeat' first | with_reducible first | apply ih0 | apply LeO.refl | apply LeO.none | refine LeO.ite ?_ ?_ | refine LeO.bind ?_ (fun _ => ?_)
set_option maxHeartbeats 8000000 in
set_option maxRecDepth 100000 in
theorem intrusionref01_Value.calls (k : Nat) (a0 : ByteArray) (r : Int) (w : World) (h : intrusionref01_Value.f k a0 = some r) :
  Calls Tryd.prog 88 #[.string a0] w fun e w' => e = .returned (.int .i64 r) ∧ Drawn0 w w' := by
 have H : (intrusionref01_Value.l0 k a0 0 0) = some r := h
 clear h
 have H' := As H
 clear H
 go_enter Tryd.func88, Tryd.ntmps88
 go_wp2
 go_loopg [3, 4] k (fun kq v3 v4 w' => ∃ (x3_1 : Int) (x4_1 : Int), v3 = .int .i64 x3_1 ∧ v4 = .int .i64 x4_1 ∧ Aside0 (intrusionref01_Value.l0 kq a0 x3_1 x4_1 = some r) ∧ Aside0 (kq ≤ k) ∧ Drawn0 w w')
 case atStart => exact ⟨(0), (0), kS, kS, H', ⟨Nat.le_refl _⟩, by repeat (first | exact Drawn0.refl _ | apply Drawn0.step)⟩
 clear H'
 obtain ⟨x3_1, x4_1, rfl, rfl, HA, HK1, ⟨m1, rfl⟩⟩ := hrel
 cases gk with
 | zero => exact absurd HA.out (by simp [intrusionref01_Value.l0])
 | succ k1 =>
  have H := HA.out
  clear HA
  simp only [intrusionref01_Value.l0] at H
  by_cases c2 : x4_1 < (a0.size : Int)
  ·rw [if_pos c2] at H
   have c2b0 : decide (x4_1 < (a0.size : Int)) = true := decide_eq_true c2
   clear c2
   by_cases c3 : 0 ≤ x4_1
   ·rw [if_pos c3] at H
    have c3b0 : decide (0 ≤ x4_1) = true := decide_eq_true c3
    clear c3
    have H' := As H
    clear H
    have p4 : 0 ≤ (x4_1 : Int) := of_decide_eq_true (by first | (with_reducible assumption) | assumption)
    have q4 : x4_1 < (a0.size : Int) := of_decide_eq_true (by first | (with_reducible assumption) | assumption)
    have hx4 := bt_at a0 x4_1
    replace p4 := eq_true p4
    replace q4 := eq_true q4
    go_wp2
    go_roundg k1
    case measure => have := HK1.out; omega
    case rel => exact ⟨(wrap64 ((wrap64 (x3_1 * 256)) + (wrap64 (bt a0 x4_1)))), (wrap64 (x4_1 + 1)), kS, kS, H', ⟨by have := HK1.out; omega⟩, by repeat (first | exact Drawn0.refl _ | apply Drawn0.step)⟩
   rw [if_neg c3] at H
   exact absurd H (by simp)
  rw [if_neg c2] at H
  have c2b0 : decide (x4_1 < (a0.size : Int)) = false := decide_eq_false c2
  clear c2
  obtain rfl := Option.some.inj H
  go_wp2
  go_ret
  exact ⟨by first | rfl | (simp; done) | (simp [*]; done), by repeat (first | exact Drawn0.refl _ | apply Drawn0.step)⟩

/-! ### intrusionref01_Get: function 112 -/
def intrusionref01_Get.j0 : Nat → ByteArray → Int → Int → Bool → Option (Int × Int)
 | 0, _, _, _, _ => none
 | k + 1, x0, x1, x2, x17 => if x17 = true then (some (0, 4)) else (if x1 > (x0.size : Int) then (some (0, 1)) else (if (wrap64 ((x0.size : Int) - x1)) < x2 then (some (0, 1)) else (if 0 ≤ x1 then (if x1 ≤ (wrap64 (x1 + x2)) then (if (wrap64 (x1 + x2)) ≤ (x0.size : Int) then ((intrusionref01_Value.f k (x0.extract (x1 : Int).toNat ((wrap64 (x1 + x2)) : Int).toNat)).bind fun t297 => (some (t297, 0))) else (none)) else (none)) else (none))))
def intrusionref01_Get.f (k : Nat) (a0 : ByteArray) (a1 : Int) (a2 : Int) : Option (Int × Int) := if a2 < 1 then (intrusionref01_Get.j0 k a0 a1 a2 true) else (if a2 > 7 then (intrusionref01_Get.j0 k a0 a1 a2 true) else (intrusionref01_Get.j0 k a0 a1 a2 (decide (a1 < 0))))
theorem intrusionref01_Get.mono_l : ∀ k, (∀ y0 y1 y2 y3, LeO (intrusionref01_Get.j0 k y0 y1 y2 y3) (intrusionref01_Get.j0 (k + 1) y0 y1 y2 y3))
 | 0 => fun _ _ _ _ r h => by simp [intrusionref01_Get.j0] at h
 | k + 1 => by
  have ih0 := intrusionref01_Get.mono_l k
  intro y0 y1 y2 y3
  unfold intrusionref01_Get.j0
  repeat' first | with_reducible first | apply ih0 | apply intrusionref01_Value.mono | apply LeO.refl | apply LeO.none | refine LeO.ite ?_ ?_ | refine LeO.bind ?_ (fun _ => ?_)
theorem intrusionref01_Get.mono : ∀ a0 a1 a2 k, LeO (intrusionref01_Get.f k a0 a1 a2) (intrusionref01_Get.f (k + 1) a0 a1 a2) := by
 intro a0 a1 a2 k
 have ih0 := intrusionref01_Get.mono_l k
 unfold intrusionref01_Get.f
 repeat' first | with_reducible first | apply ih0 | apply intrusionref01_Value.mono | apply LeO.refl | apply LeO.none | refine LeO.ite ?_ ?_ | refine LeO.bind ?_ (fun _ => ?_)
set_option maxHeartbeats 8000000 in
set_option maxRecDepth 100000 in
theorem intrusionref01_Get.calls (k : Nat) (a0 : ByteArray) (a1 : Int) (a2 : Int) (r1 : Int) (r2 : Int) (w : World) (h : intrusionref01_Get.f k a0 a1 a2 = some (r1, r2)) :
  Calls Tryd.prog 112 #[.string a0, .int .i64 a1, .int .i64 a2] w fun e w' => e = .returned (.tuple #[.int .i64 r1, .int .i64 r2]) ∧ Drawn0 w w' := by
 have H : (if a2 < 1 then (intrusionref01_Get.j0 k a0 a1 a2 true) else (if a2 > 7 then (intrusionref01_Get.j0 k a0 a1 a2 true) else (intrusionref01_Get.j0 k a0 a1 a2 (decide (a1 < 0))))) = some (r1, r2) := h
 clear h
 have HC4 := As H
 clear H
 go_enter Tryd.func112, Tryd.ntmps112
 go_upto_region 1 with (fail)
 go_cut [17] (fun v17 wc => ∃ (kq : Nat) (x17_3 : Bool), v17 = .bool x17_3 ∧ Aside0 (intrusionref01_Get.j0 kq a0 a1 a2 x17_3 = some (r1, r2)) ∧ Aside0 (kq ≤ k) ∧ Drawn0 w wc)
 case first =>
  have H := HC4.out
  clear HC4
  by_cases c5 : a2 < 1
  ·rw [if_pos c5] at H
   have c5b0 : decide (a2 < 1) = true := decide_eq_true c5
   clear c5
   (first | rw [c5b0] | (simp only [i64_w, i32_w]; rw [c5b0]) | skip)
   have H' := As H
   clear H
   go_wp2
   go_meet
   case rel => exact ⟨_, (true), kS, H', ⟨by first | omega | exact Nat.le_refl _⟩, by repeat (first | exact Drawn0.refl _ | apply Drawn0.step)⟩
  rw [if_neg c5] at H
  have c5b0 : decide (a2 < 1) = false := decide_eq_false c5
  clear c5
  (first | rw [c5b0] | (simp only [i64_w, i32_w]; rw [c5b0]) | skip)
  by_cases c6 : a2 > 7
  ·rw [if_pos c6] at H
   have c6b0 : decide (7 < a2) = true := decide_eq_true c6
   clear c6
   have H' := As H
   clear H
   go_wp2
   go_meet
   case rel => exact ⟨_, (true), kS, H', ⟨by first | omega | exact Nat.le_refl _⟩, by repeat (first | exact Drawn0.refl _ | apply Drawn0.step)⟩
  rw [if_neg c6] at H
  have c6b0 : decide (7 < a2) = false := decide_eq_false c6
  clear c6
  have H' := As H
  clear H
  go_wp2
  go_meet
  case rel => exact ⟨_, (decide (a1 < 0)), kS, H', ⟨by first | omega | exact Nat.le_refl _⟩, by repeat (first | exact Drawn0.refl _ | apply Drawn0.step)⟩
 clear HC4
 obtain ⟨kq, x17_3, rfl, HA, HJ3, ⟨mc3, rfl⟩⟩ := hcut
 cases kq with
 | zero => exact absurd HA.out (by simp [intrusionref01_Get.j0])
 | succ kj3 =>
  have H := HA.out
  clear HA
  simp only [intrusionref01_Get.j0] at H
  by_cases c7 : x17_3 = true
  ·subst c7
   have H1 : (some (0, 4)) = some (r1, r2) := by rw [if_pos rfl] at H; exact H
   clear H
   have H := H1
   clear H1
   simp only [Option.some.injEq, Prod.mk.injEq] at H
   obtain ⟨rfl, rfl⟩ := H
   go_wp2
   go_ret2
   exact ⟨by first | rfl | (simp; done) | (simp [*]; done), by repeat (first | exact Drawn0.refl _ | apply Drawn0.step)⟩
  replace c7 := Bool.eq_false_iff.mpr c7
  subst c7
  have H1 : (if a1 > (a0.size : Int) then (some (0, 1)) else (if (wrap64 ((a0.size : Int) - a1)) < a2 then (some (0, 1)) else (if 0 ≤ a1 then (if a1 ≤ (wrap64 (a1 + a2)) then (if (wrap64 (a1 + a2)) ≤ (a0.size : Int) then ((intrusionref01_Value.f kj3 (a0.extract (a1 : Int).toNat ((wrap64 (a1 + a2)) : Int).toNat)).bind fun t297 => (some (t297, 0))) else (none)) else (none)) else (none)))) = some (r1, r2) := by rw [if_neg (show ¬ (false = true) by decide)] at H; exact H
  clear H
  have H := H1
  clear H1
  by_cases c8 : a1 > (a0.size : Int)
  ·rw [if_pos c8] at H
   have c8b0 : decide ((a0.size : Int) < a1) = true := decide_eq_true c8
   clear c8
   simp only [Option.some.injEq, Prod.mk.injEq] at H
   obtain ⟨rfl, rfl⟩ := H
   go_wp2
   go_ret2
   exact ⟨by first | rfl | (simp; done) | (simp [*]; done), by repeat (first | exact Drawn0.refl _ | apply Drawn0.step)⟩
  rw [if_neg c8] at H
  have c8b0 : decide ((a0.size : Int) < a1) = false := decide_eq_false c8
  clear c8
  by_cases c9 : (wrap64 ((a0.size : Int) - a1)) < a2
  ·rw [if_pos c9] at H
   have c9b0 : decide ((wrap64 ((a0.size : Int) - a1)) < a2) = true := decide_eq_true c9
   clear c9
   simp only [Option.some.injEq, Prod.mk.injEq] at H
   obtain ⟨rfl, rfl⟩ := H
   go_wp2
   go_ret2
   exact ⟨by first | rfl | (simp; done) | (simp [*]; done), by repeat (first | exact Drawn0.refl _ | apply Drawn0.step)⟩
  rw [if_neg c9] at H
  have c9b0 : decide ((wrap64 ((a0.size : Int) - a1)) < a2) = false := decide_eq_false c9
  clear c9
  by_cases c10 : 0 ≤ a1
  ·rw [if_pos c10] at H
   have c10b0 := eq_true c10
   have c10b1 : decide (0 ≤ a1) = true := decide_eq_true c10
   clear c10
   by_cases c11 : a1 ≤ (wrap64 (a1 + a2))
   ·rw [if_pos c11] at H
    have c11b0 := eq_true c11
    have c11b1 : decide (a1 ≤ (wrap64 (a1 + a2))) = true := decide_eq_true c11
    by_cases c12 : (wrap64 (a1 + a2)) ≤ (a0.size : Int)
    ·rw [if_pos c12] at H
     have c12b0 := eq_true c12
     have c12b1 : decide ((wrap64 (a1 + a2)) ≤ (a0.size : Int)) = true := decide_eq_true c12
     replace H := Option.bind_eq_some_iff.mp H
     obtain ⟨t297, A130, H⟩ := H
     replace H : (some (t297, 0)) = some (r1, r2) := H
     have A13 := As A130
     clear A130
     simp only [Option.some.injEq, Prod.mk.injEq] at H
     obtain ⟨rfl, rfl⟩ := H
     go_wp2_with (first | ((with_reducible refine gate_callee (f := 88) rfl ?_); refine goesL_ (some 36) rfl rfl Tryd.func88 (by kernel_rfl) rfl #[.string (a0.extract (a1 : Int).toNat ((wrap64 (a1 + a2)) : Int).toNat)] rfl kA ?_; (with_reducible refine (intrusionref01_Value.calls kj3 (a0.extract (a1 : Int).toNat ((wrap64 (a1 + a2)) : Int).toNat) t297 _ A13.out).mono ?_); rintro e w' ⟨rfl, ⟨nd, rfl⟩⟩; refine ⟨_, rfl, ?_⟩))
     go_ret2
     exact ⟨by first | rfl | (simp; done) | (simp [*]; done), by repeat (first | exact Drawn0.refl _ | apply Drawn0.step)⟩
    rw [if_neg c12] at H
    exact absurd H (by simp)
   rw [if_neg c11] at H
   exact absurd H (by simp)
  rw [if_neg c10] at H
  exact absurd H (by simp)

/-! ### intrusionref17_number: function 83 -/
def intrusionref17_number.f (k : Nat) (a0 : ByteArray) (a1 : Int) (a2 : Int) : Option (Int) := (intrusionref01_Get.f k a0 a1 a2).bind fun bt298 => (some bt298.1)
theorem intrusionref17_number.mono : ∀ a0 a1 a2 k, LeO (intrusionref17_number.f k a0 a1 a2) (intrusionref17_number.f (k + 1) a0 a1 a2) := by
 intro a0 a1 a2 k
 unfold intrusionref17_number.f
 repeat' first | with_reducible first | apply intrusionref01_Get.mono | apply LeO.refl | apply LeO.none | refine LeO.ite ?_ ?_ | refine LeO.bind ?_ (fun _ => ?_)
set_option maxHeartbeats 8000000 in
set_option maxRecDepth 100000 in
theorem intrusionref17_number.calls (k : Nat) (a0 : ByteArray) (a1 : Int) (a2 : Int) (r : Int) (w : World) (h : intrusionref17_number.f k a0 a1 a2 = some r) :
  Calls Tryd.prog 83 #[.string a0, .int .i64 a1, .int .i64 a2] w fun e w' => e = .returned (.int .i64 r) ∧ Drawn0 w w' := by
 have H : ((intrusionref01_Get.f k a0 a1 a2).bind fun bt298 => (some bt298.1)) = some r := h
 clear h
 replace H := Option.bind_eq_some_iff.mp H
 obtain ⟨⟨t298, t299⟩, A40, H⟩ := H
 replace H : (some t298) = some r := H
 have A4 := As A40
 clear A40
 obtain rfl := Option.some.inj H
 go_enter Tryd.func83, Tryd.ntmps83
 go_wp2_with (first | ((with_reducible refine gate_callee (f := 112) rfl ?_); refine goesL_ (some 13) rfl rfl Tryd.func112 (by kernel_rfl) rfl #[.string a0, .int .i64 a1, .int .i64 a2] rfl kA ?_; (with_reducible refine (intrusionref01_Get.calls k a0 a1 a2 t298 t299 _ A4.out).mono ?_); rintro e w' ⟨rfl, ⟨nd, rfl⟩⟩; refine ⟨_, rfl, ?_⟩))
 go_ret
 exact ⟨by first | rfl | (simp; done) | (simp [*]; done), by repeat (first | exact Drawn0.refl _ | apply Drawn0.step)⟩

/-! ### intrusionref17_gre: function 45 -/
mutual
def intrusionref17_gre.j0 : Nat → ByteArray → Int → Int → Bool → Option (Int × ByteArray × Int)
 | 0, _, _, _, _ => none
 | k + 1, x0, x5, x6, x22 => if x22 = true then (some (0, (⟨#[]⟩ : ByteArray), 2)) else (if (Go.bits .and .i64 x5 32768) = 0 then (intrusionref17_gre.j1 k x0 x5 x6 4) else (intrusionref17_gre.j1 k x0 x5 x6 (4 + 4)))
def intrusionref17_gre.j1 : Nat → ByteArray → Int → Int → Int → Option (Int × ByteArray × Int)
 | 0, _, _, _, _ => none
 | k + 1, x0, x5, x6, x7 => if (Go.bits .and .i64 x5 8192) = 0 then (intrusionref17_gre.j2 k x0 x5 x6 x7) else (intrusionref17_gre.j2 k x0 x5 x6 (wrap64 (x7 + 4)))
def intrusionref17_gre.j2 : Nat → ByteArray → Int → Int → Int → Option (Int × ByteArray × Int)
 | 0, _, _, _, _ => none
 | k + 1, x0, x5, x6, x7 => if (Go.bits .and .i64 x5 4096) = 0 then (intrusionref17_gre.j3 k x0 x5 x6 x7) else (intrusionref17_gre.j3 k x0 x5 x6 (wrap64 (x7 + 4)))
def intrusionref17_gre.j3 : Nat → ByteArray → Int → Int → Int → Option (Int × ByteArray × Int)
 | 0, _, _, _, _ => none
 | k + 1, x0, x5, x6, x7 => if (x0.size : Int) < x7 then (some (0, (⟨#[]⟩ : ByteArray), 1)) else (if (Go.bits .and .i64 x5 32768) = 0 then (if 0 ≤ x7 then (if x7 ≤ (x0.size : Int) then (some (x6, x0.extract (x7 : Int).toNat x0.size, 0)) else (none)) else (none)) else ((intrusionref02_Sum.f k x0).bind fun t303 => (if t303 = 0 then (if 0 ≤ x7 then (if x7 ≤ (x0.size : Int) then (some (x6, x0.extract (x7 : Int).toNat x0.size, 0)) else (none)) else (none)) else (some (0, (⟨#[]⟩ : ByteArray), 8)))))
end
def intrusionref17_gre.f (k : Nat) (a0 : ByteArray) : Option (Int × ByteArray × Int) := if (a0.size : Int) < 4 then (some (0, (⟨#[]⟩ : ByteArray), 1)) else ((intrusionref17_number.f k a0 0 2).bind fun t300 => ((intrusionref17_number.f k a0 2 2).bind fun t301 => ((intrusionref17_kindOf.f t301).bind fun t302 => (if (Go.bits .and .i64 t300 20479) = 0 then (intrusionref17_gre.j0 k a0 t300 t302 (t302 == 0)) else (intrusionref17_gre.j0 k a0 t300 t302 true)))))
theorem intrusionref17_gre.mono_l : ∀ k, (∀ y0 y1 y2 y3, LeO (intrusionref17_gre.j0 k y0 y1 y2 y3) (intrusionref17_gre.j0 (k + 1) y0 y1 y2 y3)) ∧ (∀ y0 y1 y2 y3, LeO (intrusionref17_gre.j1 k y0 y1 y2 y3) (intrusionref17_gre.j1 (k + 1) y0 y1 y2 y3)) ∧ (∀ y0 y1 y2 y3, LeO (intrusionref17_gre.j2 k y0 y1 y2 y3) (intrusionref17_gre.j2 (k + 1) y0 y1 y2 y3)) ∧ (∀ y0 y1 y2 y3, LeO (intrusionref17_gre.j3 k y0 y1 y2 y3) (intrusionref17_gre.j3 (k + 1) y0 y1 y2 y3))
 | 0 => ⟨fun _ _ _ _ r h => by simp [intrusionref17_gre.j0] at h, fun _ _ _ _ r h => by simp [intrusionref17_gre.j1] at h, fun _ _ _ _ r h => by simp [intrusionref17_gre.j2] at h, fun _ _ _ _ r h => by simp [intrusionref17_gre.j3] at h⟩
 | k + 1 => by
  obtain ⟨ih0, ih1, ih2, ih3⟩ := intrusionref17_gre.mono_l k
  refine ⟨?_, ?_, ?_, ?_⟩
  ·intro y0 y1 y2 y3
   unfold intrusionref17_gre.j0
   repeat' first | with_reducible first | apply ih0 | apply ih1 | apply ih2 | apply ih3 | apply intrusionref02_Sum.mono | apply intrusionref17_number.mono | apply LeO.refl | apply LeO.none | refine LeO.ite ?_ ?_ | refine LeO.bind ?_ (fun _ => ?_)
  ·intro y0 y1 y2 y3
   unfold intrusionref17_gre.j1
   repeat' first | with_reducible first | apply ih0 | apply ih1 | apply ih2 | apply ih3 | apply intrusionref02_Sum.mono | apply intrusionref17_number.mono | apply LeO.refl | apply LeO.none | refine LeO.ite ?_ ?_ | refine LeO.bind ?_ (fun _ => ?_)
  ·intro y0 y1 y2 y3
   unfold intrusionref17_gre.j2
   repeat' first | with_reducible first | apply ih0 | apply ih1 | apply ih2 | apply ih3 | apply intrusionref02_Sum.mono | apply intrusionref17_number.mono | apply LeO.refl | apply LeO.none | refine LeO.ite ?_ ?_ | refine LeO.bind ?_ (fun _ => ?_)
  intro y0 y1 y2 y3
  unfold intrusionref17_gre.j3
  repeat' first | with_reducible first | apply ih0 | apply ih1 | apply ih2 | apply ih3 | apply intrusionref02_Sum.mono | apply intrusionref17_number.mono | apply LeO.refl | apply LeO.none | refine LeO.ite ?_ ?_ | refine LeO.bind ?_ (fun _ => ?_)
theorem intrusionref17_gre.mono : ∀ a0 k, LeO (intrusionref17_gre.f k a0) (intrusionref17_gre.f (k + 1) a0) := by
 intro a0 k
 obtain ⟨ih0, ih1, ih2, ih3⟩ := intrusionref17_gre.mono_l k
 unfold intrusionref17_gre.f
 repeat' first | with_reducible first | apply ih0 | apply ih1 | apply ih2 | apply ih3 | apply intrusionref02_Sum.mono | apply intrusionref17_number.mono | apply LeO.refl | apply LeO.none | refine LeO.ite ?_ ?_ | refine LeO.bind ?_ (fun _ => ?_)
set_option maxHeartbeats 8000000 in
set_option maxRecDepth 100000 in
theorem intrusionref17_gre.calls (k : Nat) (a0 : ByteArray) (r1 : Int) (r2 : ByteArray) (r3 : Int) (w : World) (h : intrusionref17_gre.f k a0 = some (r1, r2, r3)) :
  Calls Tryd.prog 45 #[.string a0] w fun e w' => e = .returned (.tuple #[.int .i64 r1, .string r2, .int .i64 r3]) ∧ Drawn0 w w' := by
 have H : (if (a0.size : Int) < 4 then (some (0, (⟨#[]⟩ : ByteArray), 1)) else ((intrusionref17_number.f k a0 0 2).bind fun t300 => ((intrusionref17_number.f k a0 2 2).bind fun t301 => ((intrusionref17_kindOf.f t301).bind fun t302 => (if (Go.bits .and .i64 t300 20479) = 0 then (intrusionref17_gre.j0 k a0 t300 t302 (t302 == 0)) else (intrusionref17_gre.j0 k a0 t300 t302 true)))))) = some (r1, r2, r3) := h
 clear h
 by_cases c2 : (a0.size : Int) < 4
 ·rw [if_pos c2] at H
  have c2b0 : decide ((a0.size : Int) < 4) = true := decide_eq_true c2
  have c2b1 : decide (a0.size < 4) = true := decide_eq_true (by omega)
  clear c2
  simp only [Option.some.injEq, Prod.mk.injEq] at H
  obtain ⟨rfl, rfl, rfl⟩ := H
  go_enter Tryd.func45, Tryd.ntmps45
  go_wp2
  repeat (go_quiet (fail); try go_wp2)
  go_ret3
  exact ⟨by first | rfl | (simp; done) | (simp [*]; done), by repeat (first | exact Drawn0.refl _ | apply Drawn0.step)⟩
 rw [if_neg c2] at H
 have c2b0 : decide ((a0.size : Int) < 4) = false := decide_eq_false c2
 have c2b1 : decide (a0.size < 4) = false := decide_eq_false (by omega)
 clear c2
 replace H := Option.bind_eq_some_iff.mp H
 obtain ⟨t300, A30, H⟩ := H
 replace H : ((intrusionref17_number.f k a0 2 2).bind fun t301 => ((intrusionref17_kindOf.f t301).bind fun t302 => (if (Go.bits .and .i64 t300 20479) = 0 then (intrusionref17_gre.j0 k a0 t300 t302 (t302 == 0)) else (intrusionref17_gre.j0 k a0 t300 t302 true)))) = some (r1, r2, r3) := H
 have A3 := As A30
 clear A30
 replace H := Option.bind_eq_some_iff.mp H
 obtain ⟨t301, A40, H⟩ := H
 replace H : ((intrusionref17_kindOf.f t301).bind fun t302 => (if (Go.bits .and .i64 t300 20479) = 0 then (intrusionref17_gre.j0 k a0 t300 t302 (t302 == 0)) else (intrusionref17_gre.j0 k a0 t300 t302 true))) = some (r1, r2, r3) := H
 have A4 := As A40
 clear A40
 replace H := Option.bind_eq_some_iff.mp H
 obtain ⟨t302, A50, H⟩ := H
 replace H : (if (Go.bits .and .i64 t300 20479) = 0 then (intrusionref17_gre.j0 k a0 t300 t302 (t302 == 0)) else (intrusionref17_gre.j0 k a0 t300 t302 true)) = some (r1, r2, r3) := H
 have A5 := As A50
 clear A50
 have HC6 := As H
 clear H
 go_enter Tryd.func45, Tryd.ntmps45
 go_upto_region 5 with (first | (go_at_call 83; (with_reducible refine (intrusionref17_number.calls k a0 0 2 t300 _ A3.out).mono ?_); rintro e w' ⟨rfl, ⟨nd, rfl⟩⟩; (try first | exact ⟨rfl, _, World.drewN_drewN _ _ _⟩ | exact ⟨rfl, _, Eq.trans (World.drewN_drewN _ _ _) (congrArg (World.drewN _) (Nat.add_assoc _ _ _))⟩)) | (go_at_call 83; (with_reducible refine (intrusionref17_number.calls k a0 2 2 t301 _ A4.out).mono ?_); rintro e w' ⟨rfl, ⟨nd, rfl⟩⟩; (try first | exact ⟨rfl, _, World.drewN_drewN _ _ _⟩ | exact ⟨rfl, _, Eq.trans (World.drewN_drewN _ _ _) (congrArg (World.drewN _) (Nat.add_assoc _ _ _))⟩)) | (go_at_call 50; (with_reducible refine (intrusionref17_kindOf.calls t301 t302 _ A5.out).mono ?_); rintro e w' ⟨rfl, ⟨nd, rfl⟩⟩; (try first | exact ⟨rfl, _, World.drewN_drewN _ _ _⟩ | exact ⟨rfl, _, Eq.trans (World.drewN_drewN _ _ _) (congrArg (World.drewN _) (Nat.add_assoc _ _ _))⟩)))
 repeat (go_quiet (first | (go_at_call 83; (with_reducible refine (intrusionref17_number.calls k a0 0 2 t300 _ A3.out).mono ?_); rintro e w' ⟨rfl, ⟨nd, rfl⟩⟩; (try first | exact ⟨rfl, _, World.drewN_drewN _ _ _⟩ | exact ⟨rfl, _, Eq.trans (World.drewN_drewN _ _ _) (congrArg (World.drewN _) (Nat.add_assoc _ _ _))⟩)) | (go_at_call 83; (with_reducible refine (intrusionref17_number.calls k a0 2 2 t301 _ A4.out).mono ?_); rintro e w' ⟨rfl, ⟨nd, rfl⟩⟩; (try first | exact ⟨rfl, _, World.drewN_drewN _ _ _⟩ | exact ⟨rfl, _, Eq.trans (World.drewN_drewN _ _ _) (congrArg (World.drewN _) (Nat.add_assoc _ _ _))⟩)) | (go_at_call 50; (with_reducible refine (intrusionref17_kindOf.calls t301 t302 _ A5.out).mono ?_); rintro e w' ⟨rfl, ⟨nd, rfl⟩⟩; (try first | exact ⟨rfl, _, World.drewN_drewN _ _ _⟩ | exact ⟨rfl, _, Eq.trans (World.drewN_drewN _ _ _) (congrArg (World.drewN _) (Nat.add_assoc _ _ _))⟩))); go_upto_region 5 with (first | (go_at_call 83; (with_reducible refine (intrusionref17_number.calls k a0 0 2 t300 _ A3.out).mono ?_); rintro e w' ⟨rfl, ⟨nd, rfl⟩⟩; (try first | exact ⟨rfl, _, World.drewN_drewN _ _ _⟩ | exact ⟨rfl, _, Eq.trans (World.drewN_drewN _ _ _) (congrArg (World.drewN _) (Nat.add_assoc _ _ _))⟩)) | (go_at_call 83; (with_reducible refine (intrusionref17_number.calls k a0 2 2 t301 _ A4.out).mono ?_); rintro e w' ⟨rfl, ⟨nd, rfl⟩⟩; (try first | exact ⟨rfl, _, World.drewN_drewN _ _ _⟩ | exact ⟨rfl, _, Eq.trans (World.drewN_drewN _ _ _) (congrArg (World.drewN _) (Nat.add_assoc _ _ _))⟩)) | (go_at_call 50; (with_reducible refine (intrusionref17_kindOf.calls t301 t302 _ A5.out).mono ?_); rintro e w' ⟨rfl, ⟨nd, rfl⟩⟩; (try first | exact ⟨rfl, _, World.drewN_drewN _ _ _⟩ | exact ⟨rfl, _, Eq.trans (World.drewN_drewN _ _ _) (congrArg (World.drewN _) (Nat.add_assoc _ _ _))⟩))))
 (try simp only [Act.put, sA, sZ, sS])
 go_cut [22] (fun v22 wc => ∃ (kq : Nat) (x22_5 : Bool), v22 = .bool x22_5 ∧ Aside0 (intrusionref17_gre.j0 kq a0 t300 t302 x22_5 = some (r1, r2, r3)) ∧ Aside0 (kq ≤ k) ∧ Drawn0 w wc)
 case first =>
  have H := HC6.out
  clear HC6
  by_cases c7 : (Go.bits .and .i64 t300 20479) = 0
  ·rw [if_pos c7] at H
   have c7b0 : ((Go.bits .and .i64 t300 20479) == 0) = true := beq_iff_eq.mpr c7
   have c7b1 : ((Go.bits .and .i64 t300 20479) != 0) = false := bne_eq_false_iff_eq.mpr c7
   clear c7
   (first | rw [c7b0] | (simp only [i64_w, i32_w]; rw [c7b0]) | skip)
   have H' := As H
   clear H
   go_wp2
   repeat (go_quiet (fail); try go_wp2)
   go_meet
   case rel => exact ⟨_, ((t302 == 0)), kS, H', ⟨by first | omega | exact Nat.le_refl _⟩, by repeat (first | exact Drawn0.refl _ | apply Drawn0.step)⟩
  rw [if_neg c7] at H
  have c7b0 : ((Go.bits .and .i64 t300 20479) == 0) = false := beq_eq_false_iff_ne.mpr c7
  have c7b1 : ((Go.bits .and .i64 t300 20479) != 0) = true := bne_iff_ne.mpr c7
  (first | rw [c7b0] | (simp only [i64_w, i32_w]; rw [c7b0]) | skip)
  have H' := As H
  clear H
  go_wp2
  repeat (go_quiet (fail); try go_wp2)
  go_meet
  case rel => exact ⟨_, (true), kS, H', ⟨by first | omega | exact Nat.le_refl _⟩, by repeat (first | exact Drawn0.refl _ | apply Drawn0.step)⟩
 clear HC6
 try clear c2
 try clear c2b0
 try clear c2b1
 obtain ⟨kq, x22_5, rfl, HA, HJ5, ⟨mc5, rfl⟩⟩ := hcut
 cases kq with
 | zero => exact absurd HA.out (by simp [intrusionref17_gre.j0])
 | succ kj5 =>
  have H := HA.out
  clear HA
  simp only [intrusionref17_gre.j0] at H
  by_cases c8 : x22_5 = true
  ·subst c8
   have H1 : (some (0, (⟨#[]⟩ : ByteArray), 2)) = some (r1, r2, r3) := by rw [if_pos rfl] at H; exact H
   clear H
   have H := H1
   clear H1
   simp only [Option.some.injEq, Prod.mk.injEq] at H
   obtain ⟨rfl, rfl, rfl⟩ := H
   go_wp2
   repeat (go_quiet (fail); try go_wp2)
   go_ret3
   exact ⟨by first | rfl | (simp; done) | (simp [*]; done), by repeat (first | exact Drawn0.refl _ | apply Drawn0.step)⟩
  replace c8 := Bool.eq_false_iff.mpr c8
  subst c8
  have H1 : (if (Go.bits .and .i64 t300 32768) = 0 then (intrusionref17_gre.j1 kj5 a0 t300 t302 4) else (intrusionref17_gre.j1 kj5 a0 t300 t302 (4 + 4))) = some (r1, r2, r3) := by rw [if_neg (show ¬ (false = true) by decide)] at H; exact H
  clear H
  have H := H1
  clear H1
  have HC9 := As H
  clear H
  go_upto_if 25 with (fail)
  repeat (go_quiet (fail); go_upto_if 25 with (fail))
  go_cut [7] (fun v7 wc => ∃ (kq : Nat) (x7_8 : Int), v7 = .int .i64 x7_8 ∧ Aside0 (intrusionref17_gre.j1 kq a0 t300 t302 x7_8 = some (r1, r2, r3)) ∧ Aside0 (kq ≤ kj5) ∧ Drawn0 w wc)
  case first =>
   have H := HC9.out
   clear HC9
   by_cases c10 : (Go.bits .and .i64 t300 32768) = 0
   ·rw [if_pos c10] at H
    have c10b0 : ((Go.bits .and .i64 t300 32768) == 0) = true := beq_iff_eq.mpr c10
    have c10b1 : ((Go.bits .and .i64 t300 32768) != 0) = false := bne_eq_false_iff_eq.mpr c10
    clear c10
    (first | rw [c10b0] | (simp only [i64_w, i32_w]; rw [c10b0]) | skip)
    have H' := As H
    clear H
    go_wp2
    repeat (go_quiet (fail); try go_wp2)
    go_meet
    case rel => exact ⟨_, (4), kS, H', ⟨by have := HJ5.out; first | omega | exact Nat.le_refl _⟩, by repeat (first | exact Drawn0.refl _ | apply Drawn0.step)⟩
   rw [if_neg c10] at H
   have c10b0 : ((Go.bits .and .i64 t300 32768) == 0) = false := beq_eq_false_iff_ne.mpr c10
   have c10b1 : ((Go.bits .and .i64 t300 32768) != 0) = true := bne_iff_ne.mpr c10
   (first | rw [c10b0] | (simp only [i64_w, i32_w]; rw [c10b0]) | skip)
   have H' := As H
   clear H
   go_wp2
   repeat (go_quiet (fail); try go_wp2)
   go_meet
   case rel => exact ⟨_, (4 + 4), kS, H', ⟨by have := HJ5.out; first | omega | exact Nat.le_refl _⟩, by repeat (first | exact Drawn0.refl _ | apply Drawn0.step)⟩
  clear HC9
  try clear c8
  obtain ⟨kq, x7_8, rfl, HA, HJ8, ⟨mc8, rfl⟩⟩ := hcut
  cases kq with
  | zero => exact absurd HA.out (by simp [intrusionref17_gre.j1])
  | succ kj8 =>
   have H := HA.out
   clear HA
   simp only [intrusionref17_gre.j1] at H
   have HC11 := As H
   clear H
   go_upto_if 30 with (fail)
   repeat (go_quiet (fail); go_upto_if 30 with (fail))
   go_cut [7] (fun v7 wc => ∃ (kq : Nat) (x7_10 : Int), v7 = .int .i64 x7_10 ∧ Aside0 (intrusionref17_gre.j2 kq a0 t300 t302 x7_10 = some (r1, r2, r3)) ∧ Aside0 (kq ≤ kj8) ∧ Drawn0 w wc)
   case first =>
    have H := HC11.out
    clear HC11
    by_cases c12 : (Go.bits .and .i64 t300 8192) = 0
    ·rw [if_pos c12] at H
     have c12b0 : ((Go.bits .and .i64 t300 8192) == 0) = true := beq_iff_eq.mpr c12
     have c12b1 : ((Go.bits .and .i64 t300 8192) != 0) = false := bne_eq_false_iff_eq.mpr c12
     clear c12
     (first | rw [c12b0] | (simp only [i64_w, i32_w]; rw [c12b0]) | skip)
     have H' := As H
     clear H
     go_wp2
     repeat (go_quiet (fail); try go_wp2)
     go_meet
     case rel => exact ⟨_, (x7_8), kS, H', ⟨by have := HJ5.out; have := HJ8.out; first | omega | exact Nat.le_refl _⟩, by repeat (first | exact Drawn0.refl _ | apply Drawn0.step)⟩
    rw [if_neg c12] at H
    have c12b0 : ((Go.bits .and .i64 t300 8192) == 0) = false := beq_eq_false_iff_ne.mpr c12
    have c12b1 : ((Go.bits .and .i64 t300 8192) != 0) = true := bne_iff_ne.mpr c12
    (first | rw [c12b0] | (simp only [i64_w, i32_w]; rw [c12b0]) | skip)
    have H' := As H
    clear H
    go_wp2
    repeat (go_quiet (fail); try go_wp2)
    go_meet
    case rel => exact ⟨_, (wrap64 (x7_8 + 4)), kS, H', ⟨by have := HJ5.out; have := HJ8.out; first | omega | exact Nat.le_refl _⟩, by repeat (first | exact Drawn0.refl _ | apply Drawn0.step)⟩
   clear HC11
   obtain ⟨kq, x7_10, rfl, HA, HJ10, ⟨mc10, rfl⟩⟩ := hcut
   cases kq with
   | zero => exact absurd HA.out (by simp [intrusionref17_gre.j2])
   | succ kj10 =>
    have H := HA.out
    clear HA
    simp only [intrusionref17_gre.j2] at H
    have HC13 := As H
    clear H
    go_upto_if 35 with (fail)
    repeat (go_quiet (fail); go_upto_if 35 with (fail))
    go_cut [7] (fun v7 wc => ∃ (kq : Nat) (x7_12 : Int), v7 = .int .i64 x7_12 ∧ Aside0 (intrusionref17_gre.j3 kq a0 t300 t302 x7_12 = some (r1, r2, r3)) ∧ Aside0 (kq ≤ kj10) ∧ Drawn0 w wc)
    case first =>
     have H := HC13.out
     clear HC13
     by_cases c14 : (Go.bits .and .i64 t300 4096) = 0
     ·rw [if_pos c14] at H
      have c14b0 : ((Go.bits .and .i64 t300 4096) == 0) = true := beq_iff_eq.mpr c14
      have c14b1 : ((Go.bits .and .i64 t300 4096) != 0) = false := bne_eq_false_iff_eq.mpr c14
      clear c14
      (first | rw [c14b0] | (simp only [i64_w, i32_w]; rw [c14b0]) | skip)
      have H' := As H
      clear H
      go_wp2
      repeat (go_quiet (fail); try go_wp2)
      go_meet
      case rel => exact ⟨_, (x7_10), kS, H', ⟨by have := HJ5.out; have := HJ8.out; have := HJ10.out; first | omega | exact Nat.le_refl _⟩, by repeat (first | exact Drawn0.refl _ | apply Drawn0.step)⟩
     rw [if_neg c14] at H
     have c14b0 : ((Go.bits .and .i64 t300 4096) == 0) = false := beq_eq_false_iff_ne.mpr c14
     have c14b1 : ((Go.bits .and .i64 t300 4096) != 0) = true := bne_iff_ne.mpr c14
     (first | rw [c14b0] | (simp only [i64_w, i32_w]; rw [c14b0]) | skip)
     have H' := As H
     clear H
     go_wp2
     repeat (go_quiet (fail); try go_wp2)
     go_meet
     case rel => exact ⟨_, (wrap64 (x7_10 + 4)), kS, H', ⟨by have := HJ5.out; have := HJ8.out; have := HJ10.out; first | omega | exact Nat.le_refl _⟩, by repeat (first | exact Drawn0.refl _ | apply Drawn0.step)⟩
    clear HC13
    obtain ⟨kq, x7_12, rfl, HA, HJ12, ⟨mc12, rfl⟩⟩ := hcut
    cases kq with
    | zero => exact absurd HA.out (by simp [intrusionref17_gre.j3])
    | succ kj12 =>
     have H := HA.out
     clear HA
     simp only [intrusionref17_gre.j3] at H
     by_cases c15 : (a0.size : Int) < x7_12
     ·rw [if_pos c15] at H
      have c15b0 : decide ((a0.size : Int) < x7_12) = true := decide_eq_true c15
      clear c15
      simp only [Option.some.injEq, Prod.mk.injEq] at H
      obtain ⟨rfl, rfl, rfl⟩ := H
      go_wp2
      repeat (go_quiet (fail); try go_wp2)
      go_ret3
      exact ⟨by first | rfl | (simp; done) | (simp [*]; done), by repeat (first | exact Drawn0.refl _ | apply Drawn0.step)⟩
     rw [if_neg c15] at H
     have c15b0 : decide ((a0.size : Int) < x7_12) = false := decide_eq_false c15
     clear c15
     by_cases c16 : (Go.bits .and .i64 t300 32768) = 0
     ·rw [if_pos c16] at H
      have c16b0 : ((Go.bits .and .i64 t300 32768) == 0) = true := beq_iff_eq.mpr c16
      have c16b1 : ((Go.bits .and .i64 t300 32768) != 0) = false := bne_eq_false_iff_eq.mpr c16
      clear c16
      by_cases c17 : 0 ≤ x7_12
      ·rw [if_pos c17] at H
       have c17b0 := eq_true c17
       have c17b1 : decide (0 ≤ x7_12) = true := decide_eq_true c17
       clear c17
       by_cases c18 : x7_12 ≤ (a0.size : Int)
       ·rw [if_pos c18] at H
        have c18b0 := eq_true c18
        have c18b1 : decide (x7_12 ≤ (a0.size : Int)) = true := decide_eq_true c18
        clear c18
        simp only [Option.some.injEq, Prod.mk.injEq] at H
        obtain ⟨rfl, rfl, rfl⟩ := H
        go_wp2
        repeat (go_quiet (fail); try go_wp2)
        go_ret3
        exact ⟨by first | rfl | (simp; done) | (simp [*]; done), by repeat (first | exact Drawn0.refl _ | apply Drawn0.step)⟩
       rw [if_neg c18] at H
       exact absurd H (by simp)
      rw [if_neg c17] at H
      exact absurd H (by simp)
     rw [if_neg c16] at H
     have c16b0 : ((Go.bits .and .i64 t300 32768) == 0) = false := beq_eq_false_iff_ne.mpr c16
     have c16b1 : ((Go.bits .and .i64 t300 32768) != 0) = true := bne_iff_ne.mpr c16
     replace H := Option.bind_eq_some_iff.mp H
     obtain ⟨t303, A190, H⟩ := H
     replace H : (if t303 = 0 then (if 0 ≤ x7_12 then (if x7_12 ≤ (a0.size : Int) then (some (t302, a0.extract (x7_12 : Int).toNat a0.size, 0)) else (none)) else (none)) else (some (0, (⟨#[]⟩ : ByteArray), 8))) = some (r1, r2, r3) := H
     have A19 := As A190
     clear A190
     by_cases c20 : t303 = 0
     ·rw [if_pos c20] at H
      have c20b0 : (t303 == 0) = true := beq_iff_eq.mpr c20
      have c20b1 : (t303 != 0) = false := bne_eq_false_iff_eq.mpr c20
      clear c20
      by_cases c21 : 0 ≤ x7_12
      ·rw [if_pos c21] at H
       have c21b0 := eq_true c21
       have c21b1 : decide (0 ≤ x7_12) = true := decide_eq_true c21
       clear c21
       by_cases c22 : x7_12 ≤ (a0.size : Int)
       ·rw [if_pos c22] at H
        have c22b0 := eq_true c22
        have c22b1 : decide (x7_12 ≤ (a0.size : Int)) = true := decide_eq_true c22
        clear c22
        simp only [Option.some.injEq, Prod.mk.injEq] at H
        obtain ⟨rfl, rfl, rfl⟩ := H
        go_wp2_with (first | (go_at_call 34; (with_reducible refine (intrusionref02_Sum.calls kj12 a0 t303 _ A19.out).mono ?_); rintro e w' ⟨rfl, ⟨nd, rfl⟩⟩; (try first | exact ⟨rfl, _, World.drewN_drewN _ _ _⟩ | exact ⟨rfl, _, Eq.trans (World.drewN_drewN _ _ _) (congrArg (World.drewN _) (Nat.add_assoc _ _ _))⟩)))
        repeat (go_quiet (first | (go_at_call 34; (with_reducible refine (intrusionref02_Sum.calls kj12 a0 t303 _ A19.out).mono ?_); rintro e w' ⟨rfl, ⟨nd, rfl⟩⟩; (try first | exact ⟨rfl, _, World.drewN_drewN _ _ _⟩ | exact ⟨rfl, _, Eq.trans (World.drewN_drewN _ _ _) (congrArg (World.drewN _) (Nat.add_assoc _ _ _))⟩))); try go_wp2_with (first | (go_at_call 34; (with_reducible refine (intrusionref02_Sum.calls kj12 a0 t303 _ A19.out).mono ?_); rintro e w' ⟨rfl, ⟨nd, rfl⟩⟩; (try first | exact ⟨rfl, _, World.drewN_drewN _ _ _⟩ | exact ⟨rfl, _, Eq.trans (World.drewN_drewN _ _ _) (congrArg (World.drewN _) (Nat.add_assoc _ _ _))⟩))))
        go_ret3
        exact ⟨by first | rfl | (simp; done) | (simp [*]; done), by repeat (first | exact Drawn0.refl _ | apply Drawn0.step)⟩
       rw [if_neg c22] at H
       exact absurd H (by simp)
      rw [if_neg c21] at H
      exact absurd H (by simp)
     rw [if_neg c20] at H
     have c20b0 : (t303 == 0) = false := beq_eq_false_iff_ne.mpr c20
     have c20b1 : (t303 != 0) = true := bne_iff_ne.mpr c20
     simp only [Option.some.injEq, Prod.mk.injEq] at H
     obtain ⟨rfl, rfl, rfl⟩ := H
     go_wp2_with (first | (go_at_call 34; (with_reducible refine (intrusionref02_Sum.calls kj12 a0 t303 _ A19.out).mono ?_); rintro e w' ⟨rfl, ⟨nd, rfl⟩⟩; (try first | exact ⟨rfl, _, World.drewN_drewN _ _ _⟩ | exact ⟨rfl, _, Eq.trans (World.drewN_drewN _ _ _) (congrArg (World.drewN _) (Nat.add_assoc _ _ _))⟩)))
     repeat (go_quiet (first | (go_at_call 34; (with_reducible refine (intrusionref02_Sum.calls kj12 a0 t303 _ A19.out).mono ?_); rintro e w' ⟨rfl, ⟨nd, rfl⟩⟩; (try first | exact ⟨rfl, _, World.drewN_drewN _ _ _⟩ | exact ⟨rfl, _, Eq.trans (World.drewN_drewN _ _ _) (congrArg (World.drewN _) (Nat.add_assoc _ _ _))⟩))); try go_wp2_with (first | (go_at_call 34; (with_reducible refine (intrusionref02_Sum.calls kj12 a0 t303 _ A19.out).mono ?_); rintro e w' ⟨rfl, ⟨nd, rfl⟩⟩; (try first | exact ⟨rfl, _, World.drewN_drewN _ _ _⟩ | exact ⟨rfl, _, Eq.trans (World.drewN_drewN _ _ _) (congrArg (World.drewN _) (Nat.add_assoc _ _ _))⟩))))
     go_ret3
     exact ⟨by first | rfl | (simp; done) | (simp [*]; done), by repeat (first | exact Drawn0.refl _ | apply Drawn0.step)⟩

end Go.Proofs.YtocobalkikkhlaaDoor.X
-- short
