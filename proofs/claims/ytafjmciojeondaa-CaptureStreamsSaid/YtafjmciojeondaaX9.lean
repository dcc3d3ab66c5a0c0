/- Functions and their walks, printed by xprint.py. -/
import Derived.Test.YtafjmciojeondaaX0
namespace Go.Proofs.Ytafjmciojeondaa.X
open Go.RowKit Go.Proofs.YtafjmciojeondaaW.PrintWords Go.Proofs.YtafjmciojeondaaW.PrintLast Go.Proofs.YtafjmciojeondaaW.PrintMore
attribute [local go_sem] max2_int min2_int max_two min_two max_three min_three max_four min_four   -- for this text's walks alone
set_option linter.unusedVariables false
set_option linter.unusedSimpArgs false

/-! ### intrusionref09_Long: function 15 -/
mutual
def intrusionref09_Long.l0 : Nat → List (S33) → Int → Option (Bool)
 | 0, _, _ => none
 | k + 1, x0, x3 => if x3 < (x0.length : Int) then (intrusionref09_Long.j1 k x0 x3 (decide (x3 < 41))) else (intrusionref09_Long.j1 k x0 x3 false)
def intrusionref09_Long.j1 : Nat → List (S33) → Int → Bool → Option (Bool)
 | 0, _, _, _ => none
 | k + 1, x0, x3, x11 => if x11 = true then (if 0 ≤ x3 then (if x3 < (x0.length : Int) then (if (((rd_T33 x0 x3).f2).size : Int) > 5000 then (some true) else (intrusionref09_Long.l0 k x0 (wrap64 (x3 + 1)))) else (none)) else (none)) else (some (decide ((x0.length : Int) > 40)))
end
def intrusionref09_Long.f (k : Nat) (l0 : List (S33)) : Option (Bool) := intrusionref09_Long.l0 k l0 0
theorem intrusionref09_Long.mono_l : ∀ k, (∀ y0 y1, LeO (intrusionref09_Long.l0 k y0 y1) (intrusionref09_Long.l0 (k + 1) y0 y1)) ∧ (∀ y0 y1 y2, LeO (intrusionref09_Long.j1 k y0 y1 y2) (intrusionref09_Long.j1 (k + 1) y0 y1 y2))
 | 0 => ⟨fun _ _ r h => by simp [intrusionref09_Long.l0] at h, fun _ _ _ r h => by simp [intrusionref09_Long.j1] at h⟩
 | k + 1 => by
  obtain ⟨ih0, ih1⟩ := intrusionref09_Long.mono_l k
  refine ⟨?_, ?_⟩
  ·intro y0 y1
   unfold intrusionref09_Long.l0
   repeat' first | with_reducible first | apply ih0 | apply ih1 | apply LeO.refl | apply LeO.none | refine LeO.ite ?_ ?_ | refine LeO.bind ?_ (fun _ => ?_)
  intro y0 y1 y2
  unfold intrusionref09_Long.j1
  repeat' first | with_reducible first | apply ih0 | apply ih1 | apply LeO.refl | apply LeO.none | refine LeO.ite ?_ ?_ | refine LeO.bind ?_ (fun _ => ?_)
theorem intrusionref09_Long.mono : ∀ a0 k, LeO (intrusionref09_Long.f k a0) (intrusionref09_Long.f (k + 1) a0) := by
 intro a0 k
 obtain ⟨ih0, ih1⟩ := intrusionref09_Long.mono_l k
 unfold intrusionref09_Long.f
 repeat' first | with_reducible first | apply ih0 | apply ih1 | apply LeO.refl | apply LeO.none | refine LeO.ite ?_ ?_ | refine LeO.bind ?_ (fun _ => ?_)
set_option maxHeartbeats 8000000 in
set_option maxRecDepth 100000 in
theorem intrusionref09_Long.calls (k : Nat) (A0 : Option Addr) (c0 : Nat) (l0 : List (S33)) (r : Bool) (w : World) (hr0 : Kd.C k33 w A0 l0.length l0) (hc0 : l0.length ≤ c0) (h : intrusionref09_Long.f k l0 = some r) :
  Calls Try.prog 15 #[.slice A0 l0.length c0] w fun e w' => e = .returned (.bool r) ∧ Drawn0 w w' := by
 have HR0 := As hr0
 have HC0 := As hc0
 clear hr0 hc0
 have H : (intrusionref09_Long.l0 k l0 0) = some r := h
 clear h
 have H' := As H
 clear H
 go_enter Try.func15, Try.ntmps15
 go_wp2
 go_loopg [3] k (fun kq v3 w' => ∃ (x3_1 : Int), v3 = .int .i64 x3_1 ∧ Aside0 (intrusionref09_Long.l0 kq l0 x3_1 = some r) ∧ Aside0 (kq ≤ k) ∧ Drawn0 w w')
 case atStart => exact ⟨(0), kS, H', ⟨Nat.le_refl _⟩, by repeat (first | exact Drawn0.refl _ | apply Drawn0.step)⟩
 clear H'
 obtain ⟨x3_1, rfl, HA, HK1, ⟨m1, rfl⟩⟩ := hrel
 cases gk with
 | zero => exact absurd HA.out (by simp [intrusionref09_Long.l0])
 | succ k1 =>
  have H := HA.out
  clear HA
  simp only [intrusionref09_Long.l0] at H
  have HC2 := As H
  clear H
  go_upto_region 2 with (fail)
  go_cut [11] (fun v11 wc => ∃ (kq : Nat) (x11_1 : Bool), v11 = .bool x11_1 ∧ Aside0 (intrusionref09_Long.j1 kq l0 x3_1 x11_1 = some r) ∧ Aside0 (kq ≤ k1) ∧ Drawn0 w wc)
  case first =>
   have H := HC2.out
   clear HC2
   by_cases c3 : x3_1 < (l0.length : Int)
   ·rw [if_pos c3] at H
    have c3b0 : decide (x3_1 < (l0.length : Int)) = true := decide_eq_true c3
    clear c3
    (first | rw [c3b0] | (simp only [i64_w, i32_w]; rw [c3b0]) | skip)
    have H' := As H
    clear H
    go_wp2
    go_meet
    case rel => exact ⟨_, (decide (x3_1 < 41)), kS, H', ⟨by have := HK1.out; first | omega | exact Nat.le_refl _⟩, by repeat (first | exact Drawn0.refl _ | apply Drawn0.step)⟩
   rw [if_neg c3] at H
   have c3b0 : decide (x3_1 < (l0.length : Int)) = false := decide_eq_false c3
   clear c3
   (first | rw [c3b0] | (simp only [i64_w, i32_w]; rw [c3b0]) | skip)
   have H' := As H
   clear H
   go_wp2
   go_meet
   case rel => exact ⟨_, (false), kS, H', ⟨by have := HK1.out; first | omega | exact Nat.le_refl _⟩, by repeat (first | exact Drawn0.refl _ | apply Drawn0.step)⟩
  clear HC2
  obtain ⟨kq, x11_1, rfl, HA, HJ1, ⟨mc1, rfl⟩⟩ := hcut
  cases kq with
  | zero => exact absurd HA.out (by simp [intrusionref09_Long.j1])
  | succ kj1 =>
   have H := HA.out
   clear HA
   simp only [intrusionref09_Long.j1] at H
   by_cases c4 : x11_1 = true
   ·subst c4
    have H1 : (if 0 ≤ x3_1 then (if x3_1 < (l0.length : Int) then (if (((rd_T33 l0 x3_1).f2).size : Int) > 5000 then (some true) else (intrusionref09_Long.l0 kj1 l0 (wrap64 (x3_1 + 1)))) else (none)) else (none)) = some r := by rw [if_pos rfl] at H; exact H
    clear H
    have H := H1
    clear H1
    by_cases c5 : 0 ≤ x3_1
    ·rw [if_pos c5] at H
     have c5b0 : decide (0 ≤ x3_1) = true := decide_eq_true c5
     clear c5
     by_cases c6 : x3_1 < (l0.length : Int)
     ·rw [if_pos c6] at H
      have c6b0 : decide (x3_1 < (l0.length : Int)) = true := decide_eq_true c6
      clear c6
      by_cases c7 : (((rd_T33 l0 x3_1).f2).size : Int) > 5000
      ·rw [if_pos c7] at H
       have c7b0 : decide (5000 < (((rd_T33 l0 x3_1).f2).size : Int)) = true := decide_eq_true c7
       have c7b1 : decide (5000 < ((rd_T33 l0 x3_1).f2).size) = true := decide_eq_true (by omega)
       clear c7
       obtain rfl := Option.some.inj H
       have p375 : 0 ≤ (x3_1 : Int) := of_decide_eq_true (by first | (with_reducible assumption) | assumption)
       have q375 : x3_1 < (l0.length : Int) := of_decide_eq_true (by first | (with_reducible assumption) | assumption)
       obtain ⟨ad375, e375, hx375_0, hx375_1, hx375_2⟩ := at_T33 HR0.out x3_1 p375 q375
       cases e375
       replace p375 := eq_true p375
       replace q375 := eq_true q375
       go_wp2
       go_ret
       exact ⟨by first | rfl | (simp; done) | (simp [*]; done), by repeat (first | exact Drawn0.refl _ | apply Drawn0.step)⟩
      rw [if_neg c7] at H
      have c7b0 : decide (5000 < (((rd_T33 l0 x3_1).f2).size : Int)) = false := decide_eq_false c7
      have c7b1 : decide (5000 < ((rd_T33 l0 x3_1).f2).size) = false := decide_eq_false (by omega)
      clear c7
      have H' := As H
      clear H
      have p375 : 0 ≤ (x3_1 : Int) := of_decide_eq_true (by first | (with_reducible assumption) | assumption)
      have q375 : x3_1 < (l0.length : Int) := of_decide_eq_true (by first | (with_reducible assumption) | assumption)
      obtain ⟨ad375, e375, hx375_0, hx375_1, hx375_2⟩ := at_T33 HR0.out x3_1 p375 q375
      cases e375
      replace p375 := eq_true p375
      replace q375 := eq_true q375
      go_wp2
      go_roundg kj1
      case measure => have := HK1.out; have := HJ1.out; omega
      case rel => exact ⟨(wrap64 (x3_1 + 1)), kS, H', ⟨by have := HK1.out; have := HJ1.out; omega⟩, by repeat (first | exact Drawn0.refl _ | apply Drawn0.step)⟩
     rw [if_neg c6] at H
     exact absurd H (by simp)
    rw [if_neg c5] at H
    exact absurd H (by simp)
   replace c4 := Bool.eq_false_iff.mpr c4
   subst c4
   have H1 : (some (decide ((l0.length : Int) > 40))) = some r := by rw [if_neg (show ¬ (false = true) by decide)] at H; exact H
   clear H
   have H := H1
   clear H1
   obtain rfl := Option.some.inj H
   go_wp2
   go_ret
   exact ⟨by first | rfl | (simp; done) | (simp [*]; done), by repeat (first | exact Drawn0.refl _ | apply Drawn0.step)⟩

end Go.Proofs.Ytafjmciojeondaa.X
-- short
