/- Functions and their walks, printed by xprint.py. -/
import Derived.Test.YtobioaommmgehaaX0
namespace Go.Proofs.Ytobioaommmgehaa.X
open Go.RowKit Go.Proofs.YtobioaommmgehaaW.PrintWords Go.Proofs.YtobioaommmgehaaW.PrintLast Go.Proofs.YtobioaommmgehaaW.PrintMore
attribute [local go_sem] max2_int min2_int max_two min_two max_three min_three max_four min_four   -- for this text's walks alone
set_option linter.unusedVariables false
set_option linter.unusedSimpArgs false

/-! ### intrusionref11_byteSized: function 39 -/
def intrusionref11_byteSized.f (a0 : Int) : Option (Bool) := if a0 ≥ 0 then (some (decide (a0 ≤ 255))) else (some false)
set_option maxHeartbeats 8000000 in
set_option maxRecDepth 100000 in
theorem intrusionref11_byteSized.calls (a0 : Int) (r : Bool) (w : World) (h : intrusionref11_byteSized.f a0 = some r) :
  Calls Try.prog 39 #[.int .i64 a0] w fun e w' => e = .returned (.bool r) ∧ Drawn0 w w' := by
 have H : (if a0 ≥ 0 then (some (decide (a0 ≤ 255))) else (some false)) = some r := h
 clear h
 by_cases c2 : a0 ≥ 0
 ·rw [if_pos c2] at H
  have c2b0 : decide (0 ≤ a0) = true := decide_eq_true c2
  clear c2
  obtain rfl := Option.some.inj H
  go_enter Try.func39, Try.ntmps39
  go_wp2
  go_ret
  exact ⟨by first | rfl | (simp; done) | (simp [*]; done), by repeat (first | exact Drawn0.refl _ | apply Drawn0.step)⟩
 rw [if_neg c2] at H
 have c2b0 : decide (0 ≤ a0) = false := decide_eq_false c2
 clear c2
 obtain rfl := Option.some.inj H
 go_enter Try.func39, Try.ntmps39
 go_wp2
 go_ret
 exact ⟨by first | rfl | (simp; done) | (simp [*]; done), by repeat (first | exact Drawn0.refl _ | apply Drawn0.step)⟩

/-! ### intrusionref06_Valid: function 67 -/
def intrusionref06_Valid.f (a0_0 : Bool) (a0_1 : Int) (a0_2 : Int) : Option (Bool) := if a0_0 = true then (some true) else (if a0_1 = 0 then (some (decide (a0_2 < 4294967296))) else (some false))
set_option maxHeartbeats 8000000 in
set_option maxRecDepth 100000 in
theorem intrusionref06_Valid.calls (a0_0 : Bool) (a0_1 : Int) (a0_2 : Int) (r : Bool) (w : World) (h : intrusionref06_Valid.f a0_0 a0_1 a0_2 = some r) :
  Calls Try.prog 67 #[.agg #[.bool a0_0, .int .u64 a0_1, .int .u64 a0_2]] w fun e w' => e = .returned (.bool r) ∧ Below w.heap.size w w' := by
 have hu25 := Try.underlying25
 have HB := As (Below.refl w.heap.size w)
 have H : (if a0_0 = true then (some true) else (if a0_1 = 0 then (some (decide (a0_2 < 4294967296))) else (some false))) = some r := h
 clear h
 by_cases c2 : a0_0 = true
 ·subst c2
  rw [if_pos rfl] at H
  obtain rfl := Option.some.inj H
  go_enter Try.func67, Try.ntmps67
  go_wp2_with (first | ((with_reducible refine gate_dst (N := 1) rfl ?_); refine box_event rfl (N := 1) rfl (cs := #[.bool true, .int .u64 a0_1, .int .u64 a0_2]) (t := 25) kG ?_; intro gb453 hg w3 hbox hb; have BK453 := As (hbox); have GW453 := As (gS hg (below_size (kB HB.out))); have GE453 := As (gS hg (below_size (kB HB.out))); replace HB := As (below_step (kB HB.out) hb); clear hb hbox hg; have hcz4_0 := cells_3 BK453.out; have hfz4_0 := fun j_ => blk_frozen BK453.out j_))
  go_ret
  exact ⟨kE, by exact kB1 HB.out GE453.out⟩
 replace c2 := Bool.eq_false_iff.mpr c2
 subst c2
 rw [if_neg (show ¬ (false = true) by decide)] at H
 by_cases c5 : a0_1 = 0
 ·rw [if_pos c5] at H
  have c5b0 : (a0_1 == 0) = true := beq_iff_eq.mpr c5
  have c5b1 : (a0_1 != 0) = false := bne_eq_false_iff_eq.mpr c5
  clear c5
  obtain rfl := Option.some.inj H
  go_enter Try.func67, Try.ntmps67
  go_wp2_with (first | ((with_reducible refine gate_dst (N := 1) rfl ?_); refine box_event rfl (N := 1) rfl (cs := #[.bool false, .int .u64 a0_1, .int .u64 a0_2]) (t := 25) kG ?_; intro gb453 hg w6 hbox hb; have BK453 := As (hbox); have GW453 := As (gS hg (below_size (kB HB.out))); have GE453 := As (gS hg (below_size (kB HB.out))); replace HB := As (below_step (kB HB.out) hb); clear hb hbox hg; have hcz7_0 := cells_3 BK453.out; have hfz7_0 := fun j_ => blk_frozen BK453.out j_))
  go_ret
  exact ⟨kE, by exact kB1 HB.out GE453.out⟩
 rw [if_neg c5] at H
 have c5b0 : (a0_1 == 0) = false := beq_eq_false_iff_ne.mpr c5
 have c5b1 : (a0_1 != 0) = true := bne_iff_ne.mpr c5
 obtain rfl := Option.some.inj H
 go_enter Try.func67, Try.ntmps67
 go_wp2_with (first | ((with_reducible refine gate_dst (N := 1) rfl ?_); refine box_event rfl (N := 1) rfl (cs := #[.bool false, .int .u64 a0_1, .int .u64 a0_2]) (t := 25) kG ?_; intro gb453 hg w8 hbox hb; have BK453 := As (hbox); have GW453 := As (gS hg (below_size (kB HB.out))); have GE453 := As (gS hg (below_size (kB HB.out))); replace HB := As (below_step (kB HB.out) hb); clear hb hbox hg; have hcz9_0 := cells_3 BK453.out; have hfz9_0 := fun j_ => blk_frozen BK453.out j_))
 go_ret
 exact ⟨kE, by exact kB1 HB.out GE453.out⟩

/-! ### intrusionref11_address: function 40 -/
def intrusionref11_address.f (a0_0 : Bool) (a0_1 : Int) (a0_2 : Int) : Option (Bool) := (intrusionref06_Valid.f a0_0 a0_1 a0_2).bind fun t455 => (if t455 = true then (some (!a0_0)) else (some false))
set_option maxHeartbeats 8000000 in
set_option maxRecDepth 100000 in
theorem intrusionref11_address.calls (a0_0 : Bool) (a0_1 : Int) (a0_2 : Int) (r : Bool) (w : World) (h : intrusionref11_address.f a0_0 a0_1 a0_2 = some r) :
  Calls Try.prog 40 #[.agg #[.bool a0_0, .int .u64 a0_1, .int .u64 a0_2]] w fun e w' => e = .returned (.bool r) ∧ Below w.heap.size w w' := by
 have hu25 := Try.underlying25
 have HB := As (Below.refl w.heap.size w)
 have H : ((intrusionref06_Valid.f a0_0 a0_1 a0_2).bind fun t455 => (if t455 = true then (some (!a0_0)) else (some false))) = some r := h
 clear h
 replace H := bS H
 obtain ⟨t455, A2, H⟩ := H
 by_cases c3 : t455 = true
 ·subst c3
  rw [if_pos rfl] at H
  obtain rfl := Option.some.inj H
  go_enter Try.func40, Try.ntmps40
  go_wp2_with (first | ((with_reducible refine gate_dst (N := 1) rfl ?_); refine box_event rfl (N := 1) rfl (cs := #[.bool a0_0, .int .u64 a0_1, .int .u64 a0_2]) (t := 25) kG ?_; intro gb454 hg w4 hbox hb; have BK454 := As (hbox); have GW454 := As (gS hg (below_size (kB HB.out))); have GE454 := As (gS hg (below_size (kB HB.out))); replace HB := As (below_step (kB HB.out) hb); clear hb hbox hg; have hcz5_0 := cells_3 BK454.out; have hfz5_0 := fun j_ => blk_frozen BK454.out j_) | ((with_reducible refine gate_callee (f := 67) rfl ?_); refine goesL_ (some 4) rfl rfl Try.func67 (by kernel_rfl) rfl #[.agg #[.bool a0_0, .int .u64 a0_1, .int .u64 a0_2]] rfl kA ?_; (with_reducible refine (intrusionref06_Valid.calls a0_0 a0_1 a0_2 true _ A2.out).mono ?_); rintro e w6 ⟨rfl, hb⟩; refine ⟨_, rfl, ?_⟩; replace BK454 := As (blk_below (kb BK454.out) hb); replace HB := As (below_step (kB1 HB.out GE454.out) hb); (try clear hb); have hcz7_0 := cells_3 BK454.out; have hfz7_0 := fun j_ => blk_frozen BK454.out j_))
  go_ret
  exact ⟨kE, by exact kB1 HB.out GE454.out⟩
 replace c3 := Bool.eq_false_iff.mpr c3
 subst c3
 rw [if_neg (show ¬ (false = true) by decide)] at H
 obtain rfl := Option.some.inj H
 go_enter Try.func40, Try.ntmps40
 go_wp2_with (first | ((with_reducible refine gate_dst (N := 1) rfl ?_); refine box_event rfl (N := 1) rfl (cs := #[.bool a0_0, .int .u64 a0_1, .int .u64 a0_2]) (t := 25) kG ?_; intro gb454 hg w8 hbox hb; have BK454 := As (hbox); have GW454 := As (gS hg (below_size (kB HB.out))); have GE454 := As (gS hg (below_size (kB HB.out))); replace HB := As (below_step (kB HB.out) hb); clear hb hbox hg; have hcz9_0 := cells_3 BK454.out; have hfz9_0 := fun j_ => blk_frozen BK454.out j_) | ((with_reducible refine gate_callee (f := 67) rfl ?_); refine goesL_ (some 4) rfl rfl Try.func67 (by kernel_rfl) rfl #[.agg #[.bool a0_0, .int .u64 a0_1, .int .u64 a0_2]] rfl kA ?_; (with_reducible refine (intrusionref06_Valid.calls a0_0 a0_1 a0_2 false _ A2.out).mono ?_); rintro e w10 ⟨rfl, hb⟩; refine ⟨_, rfl, ?_⟩; replace BK454 := As (blk_below (kb BK454.out) hb); replace HB := As (below_step (kB1 HB.out GE454.out) hb); (try clear hb)))
 go_ret
 exact ⟨kE, by exact kB1 HB.out GE454.out⟩

/-! ### intrusionref11_Kinds: function 41 -/
def intrusionref11_Kinds.l0 : Nat → List (S50) → Int → Option (Bool)
 | 0, _, _ => none
 | k + 1, x0, x3 => if x3 < (x0.length : Int) then (if 0 ≤ x3 then (if ((rd_T50 x0 x3).f0) < 2 then (some false) else (if ((rd_T50 x0 x3).f0) > 255 then (some false) else (intrusionref11_Kinds.l0 k x0 (wrap64 (x3 + 1))))) else (none)) else (some true)
def intrusionref11_Kinds.f (k : Nat) (l0 : List (S50)) : Option (Bool) := intrusionref11_Kinds.l0 k l0 0
theorem intrusionref11_Kinds.mono_l : ∀ k, (∀ y0 y1, LeO (intrusionref11_Kinds.l0 k y0 y1) (intrusionref11_Kinds.l0 (k + 1) y0 y1))
 | 0 => fun _ _ r h => by simp [intrusionref11_Kinds.l0] at h
 | k + 1 => by
  have ih0 := intrusionref11_Kinds.mono_l k
  intro y0 y1
  unfold intrusionref11_Kinds.l0
  repeat' first | with_reducible first | apply ih0 | apply LeO.refl | apply LeO.none | refine LeO.ite ?_ ?_ | refine LeO.bind ?_ (fun _ => ?_)
theorem intrusionref11_Kinds.mono : ∀ a0 k, LeO (intrusionref11_Kinds.f k a0) (intrusionref11_Kinds.f (k + 1) a0) := by
 intro a0 k
 have ih0 := intrusionref11_Kinds.mono_l k
 unfold intrusionref11_Kinds.f
 repeat' first | with_reducible first | apply ih0 | apply LeO.refl | apply LeO.none | refine LeO.ite ?_ ?_ | refine LeO.bind ?_ (fun _ => ?_)
set_option maxHeartbeats 8000000 in
set_option maxRecDepth 100000 in
theorem intrusionref11_Kinds.calls (k : Nat) (A0 : Option Addr) (c0 : Nat) (l0 : List (S50)) (r : Bool) (w : World) (hr0 : Kd.C k50 w A0 l0.length l0) (hc0 : l0.length ≤ c0) (h : intrusionref11_Kinds.f k l0 = some r) :
  Calls Try.prog 41 #[.slice A0 l0.length c0] w fun e w' => e = .returned (.bool r) ∧ Drawn0 w w' := by
 have HR0 := As hr0
 have HC0 := As hc0
 clear hr0 hc0
 have H : (intrusionref11_Kinds.l0 k l0 0) = some r := h
 clear h
 have H' := As H
 clear H
 go_enter Try.func41, Try.ntmps41
 go_wp2
 go_loopg [3] k (fun kq v3 w' => ∃ (x3_1 : Int), v3 = .int .i64 x3_1 ∧ Aside0 (intrusionref11_Kinds.l0 kq l0 x3_1 = some r) ∧ Aside0 (kq ≤ k) ∧ Drawn0 w w')
 case atStart => exact ⟨(0), kS, H', ⟨Nat.le_refl _⟩, by repeat (first | exact Drawn0.refl _ | apply Drawn0.step)⟩
 clear H'
 obtain ⟨x3_1, rfl, HA, HK1, ⟨m1, rfl⟩⟩ := hrel
 cases gk with
 | zero => exact absurd HA.out (by simp [intrusionref11_Kinds.l0])
 | succ k1 =>
  have H := HA.out
  clear HA
  simp only [intrusionref11_Kinds.l0] at H
  by_cases c2 : x3_1 < (l0.length : Int)
  ·rw [if_pos c2] at H
   have c2b0 : decide (x3_1 < (l0.length : Int)) = true := decide_eq_true c2
   clear c2
   replace H := iS H
   obtain ⟨c3, H⟩ := H
   have c3b0 := decide_eq_true c3
   clear c3
   by_cases c4 : ((rd_T50 l0 x3_1).f0) < 2
   ·rw [if_pos c4] at H
    have c4b0 : decide (((rd_T50 l0 x3_1).f0) < 2) = true := decide_eq_true c4
    clear c4
    obtain rfl := Option.some.inj H
    have p456 : 0 ≤ (x3_1 : Int) := of_decide_eq_true (by first | (with_reducible assumption) | assumption)
    have q456 : x3_1 < (l0.length : Int) := of_decide_eq_true (by first | (with_reducible assumption) | assumption)
    obtain ⟨ad456, e456, hx456_0, hx456_1⟩ := at_T50 HR0.out x3_1 p456 q456
    cases e456
    replace p456 := eq_true p456
    replace q456 := eq_true q456
    go_wp2
    go_ret
    exact ⟨by first | rfl | (simp; done) | (simp [*]; done), by repeat (first | exact Drawn0.refl _ | apply Drawn0.step)⟩
   rw [if_neg c4] at H
   have c4b0 : decide (((rd_T50 l0 x3_1).f0) < 2) = false := decide_eq_false c4
   clear c4
   by_cases c5 : ((rd_T50 l0 x3_1).f0) > 255
   ·rw [if_pos c5] at H
    have c5b0 : decide (255 < ((rd_T50 l0 x3_1).f0)) = true := decide_eq_true c5
    clear c5
    obtain rfl := Option.some.inj H
    have p456 : 0 ≤ (x3_1 : Int) := of_decide_eq_true (by first | (with_reducible assumption) | assumption)
    have q456 : x3_1 < (l0.length : Int) := of_decide_eq_true (by first | (with_reducible assumption) | assumption)
    obtain ⟨ad456, e456, hx456_0, hx456_1⟩ := at_T50 HR0.out x3_1 p456 q456
    cases e456
    replace p456 := eq_true p456
    replace q456 := eq_true q456
    have p457 : 0 ≤ (x3_1 : Int) := of_decide_eq_true (by first | (with_reducible assumption) | assumption)
    have q457 : x3_1 < (l0.length : Int) := of_decide_eq_true (by first | (with_reducible assumption) | assumption)
    obtain ⟨ad457, e457, hx457_0, hx457_1⟩ := at_T50 HR0.out x3_1 p457 q457
    obtain rfl : ad456 = ad457 := (by injection e457)
    replace p457 := eq_true p457
    replace q457 := eq_true q457
    go_wp2
    go_ret
    exact ⟨by first | rfl | (simp; done) | (simp [*]; done), by repeat (first | exact Drawn0.refl _ | apply Drawn0.step)⟩
   rw [if_neg c5] at H
   have c5b0 : decide (255 < ((rd_T50 l0 x3_1).f0)) = false := decide_eq_false c5
   clear c5
   have H' := As H
   clear H
   have p456 : 0 ≤ (x3_1 : Int) := of_decide_eq_true (by first | (with_reducible assumption) | assumption)
   have q456 : x3_1 < (l0.length : Int) := of_decide_eq_true (by first | (with_reducible assumption) | assumption)
   obtain ⟨ad456, e456, hx456_0, hx456_1⟩ := at_T50 HR0.out x3_1 p456 q456
   cases e456
   replace p456 := eq_true p456
   replace q456 := eq_true q456
   have p457 : 0 ≤ (x3_1 : Int) := of_decide_eq_true (by first | (with_reducible assumption) | assumption)
   have q457 : x3_1 < (l0.length : Int) := of_decide_eq_true (by first | (with_reducible assumption) | assumption)
   obtain ⟨ad457, e457, hx457_0, hx457_1⟩ := at_T50 HR0.out x3_1 p457 q457
   obtain rfl : ad456 = ad457 := (by injection e457)
   replace p457 := eq_true p457
   replace q457 := eq_true q457
   go_wp2
   go_roundg k1
   case measure => have := HK1.out; omega
   case rel => exact ⟨(wrap64 (x3_1 + 1)), kS, H', ⟨by have := HK1.out; omega⟩, by repeat (first | exact Drawn0.refl _ | apply Drawn0.step)⟩
  rw [if_neg c2] at H
  have c2b0 : decide (x3_1 < (l0.length : Int)) = false := decide_eq_false c2
  clear c2
  obtain rfl := Option.some.inj H
  go_wp2
  go_ret
  exact ⟨by first | rfl | (simp; done) | (simp [*]; done), by repeat (first | exact Drawn0.refl _ | apply Drawn0.step)⟩

/-! ### intrusionref11_Need: function 42 -/
def intrusionref11_Need.l0 : Nat → List (S50) → Int → Int → Option (Int)
 | 0, _, _, _ => none
 | k + 1, x0, x3, x4 => if x4 < (x0.length : Int) then (if 0 ≤ x4 then (intrusionref11_Need.l0 k x0 (mn 41 (wrap64 ((wrap64 (x3 + 2)) + (((rd_T50 x0 x4).f1).size : Int)))) (wrap64 (x4 + 1))) else (none)) else (some x3)
def intrusionref11_Need.f (k : Nat) (l0 : List (S50)) : Option (Int) := intrusionref11_Need.l0 k l0 0 0
theorem intrusionref11_Need.mono_l : ∀ k, (∀ y0 y1 y2, LeO (intrusionref11_Need.l0 k y0 y1 y2) (intrusionref11_Need.l0 (k + 1) y0 y1 y2))
 | 0 => fun _ _ _ r h => by simp [intrusionref11_Need.l0] at h
 | k + 1 => by
  have ih0 := intrusionref11_Need.mono_l k
  intro y0 y1 y2
  unfold intrusionref11_Need.l0
  repeat' first | with_reducible first | apply ih0 | apply LeO.refl | apply LeO.none | refine LeO.ite ?_ ?_ | refine LeO.bind ?_ (fun _ => ?_)
theorem intrusionref11_Need.mono : ∀ a0 k, LeO (intrusionref11_Need.f k a0) (intrusionref11_Need.f (k + 1) a0) := by
 intro a0 k
 have ih0 := intrusionref11_Need.mono_l k
 unfold intrusionref11_Need.f
 repeat' first | with_reducible first | apply ih0 | apply LeO.refl | apply LeO.none | refine LeO.ite ?_ ?_ | refine LeO.bind ?_ (fun _ => ?_)
set_option maxHeartbeats 8000000 in
set_option maxRecDepth 100000 in
theorem intrusionref11_Need.calls (k : Nat) (A0 : Option Addr) (c0 : Nat) (l0 : List (S50)) (r : Int) (w : World) (hr0 : Kd.C k50 w A0 l0.length l0) (hc0 : l0.length ≤ c0) (h : intrusionref11_Need.f k l0 = some r) :
  Calls Try.prog 42 #[.slice A0 l0.length c0] w fun e w' => e = .returned (.int .i64 r) ∧ Below w.heap.size w w' := by
 have HR0 := As hr0
 have HC0 := As hc0
 clear hr0 hc0
 have HB := As (Below.refl w.heap.size w)
 have H : (intrusionref11_Need.l0 k l0 0 0) = some r := h
 clear h
 have H' := As H
 clear H
 go_enter Try.func42, Try.ntmps42
 go_wp2
 go_loopg [3, 4] k (fun kq v3 v4 w' => ∃ (x3_1 : Int) (x4_1 : Int), v3 = .int .i64 x3_1 ∧ v4 = .int .i64 x4_1 ∧ Aside0 (intrusionref11_Need.l0 kq l0 x3_1 x4_1 = some r) ∧ Aside0 (kq ≤ k) ∧ Aside0 (Below w.heap.size w w'))
 case atStart => exact ⟨(0), (0), kS, kS, H', ⟨Nat.le_refl _⟩, ⟨kB HB.out⟩⟩
 clear H'
 obtain ⟨x3_1, x4_1, rfl, rfl, HA, HK1, HB⟩ := hrel
 cases gk with
 | zero => exact absurd HA.out (by simp [intrusionref11_Need.l0])
 | succ k1 =>
  have H := HA.out
  clear HA
  simp only [intrusionref11_Need.l0] at H
  by_cases c2 : x4_1 < (l0.length : Int)
  ·rw [if_pos c2] at H
   have c2b0 : decide (x4_1 < (l0.length : Int)) = true := decide_eq_true c2
   clear c2
   replace H := iS H
   obtain ⟨c3, H⟩ := H
   have c3b0 := decide_eq_true c3
   clear c3
   obtain ⟨ji4, hji4⟩ : ∃ j_ : Int, (mn 41 (wrap64 ((wrap64 (x3_1 + 2)) + (((rd_T50 l0 x4_1).f1).size : Int)))) = j_ := ⟨_, rfl⟩
   replace H : (intrusionref11_Need.l0 k1 l0 ji4 (wrap64 (x4_1 + 1))) = some r := by first | (rw [hji4] at H; exact H) | (simp only [hji4] at H ⊢; exact H)
   have hji4_ : (if (wrap64 ((wrap64 (x3_1 + 2)) + (((rd_T50 l0 x4_1).f1).size : Int))) < 41 then (wrap64 ((wrap64 (x3_1 + 2)) + (((rd_T50 l0 x4_1).f1).size : Int))) else 41) = ji4 := hji4
   have H' := As H
   clear H
   have p458 : 0 ≤ (x4_1 : Int) := of_decide_eq_true (by first | (with_reducible assumption) | assumption)
   have q458 : x4_1 < (l0.length : Int) := of_decide_eq_true (by first | (with_reducible assumption) | assumption)
   obtain ⟨ad458, e458, hx458_0, hx458_1⟩ := at_T50 HR0.out x4_1 p458 q458
   cases e458
   replace hx458_0 := hcell HB.out hx458_0
   replace hx458_1 := hcell HB.out hx458_1
   replace p458 := eq_true p458
   replace q458 := eq_true q458
   go_wp2
   go_roundg k1
   case measure => have := HK1.out; omega
   case rel => exact ⟨(ji4), (wrap64 (x4_1 + 1)), (by first | rfl | (simp; done) | (simp only [← hji4] <;> (first | rfl | simp)) | (simp [*]; done)), kS, H', ⟨by have := HK1.out; omega⟩, ⟨kB HB.out⟩⟩
  rw [if_neg c2] at H
  have c2b0 : decide (x4_1 < (l0.length : Int)) = false := decide_eq_false c2
  clear c2
  obtain rfl := Option.some.inj H
  go_wp2
  go_ret
  exact ⟨kE, by exact kB HB.out⟩

/-! ### intrusionref11_Written: function 43 -/
mutual
def intrusionref11_Written.l0 : Nat → List (S50) → ByteArray → Int → Option (ByteArray)
 | 0, _, _, _ => none
 | k + 1, x0, x3, x4 => if x4 < (x0.length : Int) then (if 0 ≤ x4 then ((some (([((rd_T50 x0 x4).f0) % 256, (wrap64 (2 + (((rd_T50 x0 x4).f1).size : Int))) % 256] : List Int) : List Int)).bind fun y461 => (if x3.size + (strOfNums y461).size ≤ 9223372036854775807 then (if (x3 ++ (strOfNums y461)).size + ((rd_T50 x0 x4).f1).size ≤ 9223372036854775807 then (intrusionref11_Written.l0 k x0 ((x3 ++ (strOfNums y461)) ++ ((rd_T50 x0 x4).f1)) (wrap64 (x4 + 1))) else (none)) else (none))) else (none)) else (intrusionref11_Written.l1 k x3)
def intrusionref11_Written.l1 : Nat → ByteArray → Option (ByteArray)
 | 0, _ => none
 | k + 1, x3 => if ((x3.size : Int) % 4) = 0 then (some x3) else (if x3.size + 1 ≤ 9223372036854775807 then (intrusionref11_Written.l1 k (x3 ++ (⟨#[0]⟩ : ByteArray))) else (none))
end
def intrusionref11_Written.f (k : Nat) (l0 : List (S50)) : Option (ByteArray) := intrusionref11_Written.l0 k l0 (⟨#[]⟩ : ByteArray) 0
theorem intrusionref11_Written.mono_l : ∀ k, (∀ y0 y1 y2, LeO (intrusionref11_Written.l0 k y0 y1 y2) (intrusionref11_Written.l0 (k + 1) y0 y1 y2)) ∧ (∀ y0, LeO (intrusionref11_Written.l1 k y0) (intrusionref11_Written.l1 (k + 1) y0))
 | 0 => ⟨fun _ _ _ r h => by simp [intrusionref11_Written.l0] at h, fun _ r h => by simp [intrusionref11_Written.l1] at h⟩
 | k + 1 => by
  obtain ⟨ih0, ih1⟩ := intrusionref11_Written.mono_l k
  refine ⟨?_, ?_⟩
  ·intro y0 y1 y2
   unfold intrusionref11_Written.l0
   repeat' first | with_reducible first | apply ih0 | apply ih1 | apply LeO.refl | apply LeO.none | refine LeO.ite ?_ ?_ | refine LeO.bind ?_ (fun _ => ?_)
  intro y0
  unfold intrusionref11_Written.l1
  repeat' first | with_reducible first | apply ih0 | apply ih1 | apply LeO.refl | apply LeO.none | refine LeO.ite ?_ ?_ | refine LeO.bind ?_ (fun _ => ?_)
theorem intrusionref11_Written.mono : ∀ a0 k, LeO (intrusionref11_Written.f k a0) (intrusionref11_Written.f (k + 1) a0) := by
 intro a0 k
 obtain ⟨ih0, ih1⟩ := intrusionref11_Written.mono_l k
 unfold intrusionref11_Written.f
 repeat' first | with_reducible first | apply ih0 | apply ih1 | apply LeO.refl | apply LeO.none | refine LeO.ite ?_ ?_ | refine LeO.bind ?_ (fun _ => ?_)
def intrusionref11_Written.T5 : Bool × List (List Nat × List Nat) := (true, [([], []), ([], []), ([], []), ([1, 2], [1, 2]), ([3], [3]), ([4], [4]), ([5], [5]), ([], []), ([], []), ([7, 8], [7, 8]), ([9], [9]), ([10], [10]), ([11], [11]), ([12], [12]), ([13], [13]), ([6, 14], [6, 14]), ([15], [15]), ([0, 16], [0, 16]), ([], []), ([], []), ([18, 19], [18, 19]), ([20], [20]), ([21], [21]), ([17, 22], [17, 22]), ([23, 0, 1, 2, 3, 4, 5, 6, 7, 8, 9, 10, 11, 12, 13, 14, 15, 16, 17, 18, 19, 20, 21, 22, 23], [0, 23])])
def intrusionref11_Written.B5 : List Nat := [0, 0, 0, 6, 14, 30, 62, 0, 0, 384, 896, 1920, 3968, 8064, 16256, 32766, 65534, 131071, 0, 0, 786432, 1835008, 3932160, 8388607, 16777215]
theorem intrusionref11_Written.tab5 : rtab .any (opsOf Try.f43 5) = intrusionref11_Written.T5 := by kernel_rfl
theorem intrusionref11_Written.bits5 : waitsOk intrusionref11_Written.T5.2 intrusionref11_Written.B5 = true := by kernel_rfl
set_option maxHeartbeats 8000000 in
set_option maxRecDepth 100000 in
theorem intrusionref11_Written.calls (k : Nat) (A0 : Option Addr) (c0 : Nat) (l0 : List (S50)) (r : ByteArray) (w : World) (hr0 : Kd.C k50 w A0 l0.length l0) (hc0 : l0.length ≤ c0) (h : intrusionref11_Written.f k l0 = some r) :
  Calls Try.prog 43 #[.slice A0 l0.length c0] w fun e w' => e = .returned (.string r) ∧ Below w.heap.size w w' := by
 have HR0 := As hr0
 have HC0 := As hc0
 clear hr0 hc0
 have HB := As (Below.refl w.heap.size w)
 have H : (intrusionref11_Written.l0 k l0 (⟨#[]⟩ : ByteArray) 0) = some r := h
 clear h
 have H' := As H
 clear H
 go_enter Try.func43, Try.ntmps43
 go_wp2
 go_loopg [3, 4] k (fun kq v3 v4 w' => ∃ (x3_1 : ByteArray) (x4_1 : Int), v3 = .string x3_1 ∧ v4 = .int .i64 x4_1 ∧ Aside0 (intrusionref11_Written.l0 kq l0 x3_1 x4_1 = some r) ∧ Aside0 (kq ≤ k) ∧ Aside0 (Below w.heap.size w w'))
 case atStart => exact ⟨((⟨#[]⟩ : ByteArray)), (0), kS, kS, H', ⟨Nat.le_refl _⟩, ⟨kB HB.out⟩⟩
 clear H'
 obtain ⟨x3_1, x4_1, rfl, rfl, HA, HK1, HB⟩ := hrel
 cases gk with
 | zero => exact absurd HA.out (by simp [intrusionref11_Written.l0])
 | succ k1 =>
  have H := HA.out
  clear HA
  simp only [intrusionref11_Written.l0] at H
  by_cases c2 : x4_1 < (l0.length : Int)
  ·rw [if_pos c2] at H
   have c2b0 : decide (x4_1 < (l0.length : Int)) = true := decide_eq_true c2
   clear c2
   replace H := iS H
   obtain ⟨c3, H⟩ := H
   have c3b0 := decide_eq_true c3
   clear c3
   replace H := yS H
   obtain ⟨y461, Ny461, H⟩ := H
   replace H := iS H
   obtain ⟨c4, H⟩ := H
   have c4b0 := eq_true c4
   have c4b1 := decide_eq_true c4
   try have c4b2 := eq_false (Nat.not_lt.2 c4)
   replace H := iS H
   obtain ⟨c5, H⟩ := H
   have c5b0 := eq_true c5
   have c5b1 := decide_eq_true c5
   try obtain ⟨c5s0, c5s1, c5s2⟩ := sz_ (a := (x3_1.size + (strOfNums y461).size) + ((rd_T50 l0 x4_1).f1).size) c5
   try have c5b2 := eq_false (Nat.not_lt.2 c5)
   have H' := As H
   clear H
   try go_wp2
   replace HB := As (below_drew1 HB.out)
   have p459 : 0 ≤ (x4_1 : Int) := of_decide_eq_true (by first | (with_reducible assumption) | assumption)
   have q459 : x4_1 < (l0.length : Int) := of_decide_eq_true (by first | (with_reducible assumption) | assumption)
   obtain ⟨ad459, e459, hx459_0, hx459_1⟩ := at_T50 HR0.out x4_1 p459 q459
   have hw459_1 := hx459_1
   have hw459_0 := hx459_0
   cases e459
   replace hx459_0 := hcell HB.out hx459_0
   replace hx459_1 := hcell HB.out hx459_1
   replace p459 := eq_true p459
   replace q459 := eq_true q459
   have p460 : 0 ≤ (x4_1 : Int) := of_decide_eq_true (by first | (with_reducible assumption) | assumption)
   have q460 : x4_1 < (l0.length : Int) := of_decide_eq_true (by first | (with_reducible assumption) | assumption)
   obtain ⟨ad460, e460, hx460_0, hx460_1⟩ := at_T50 HR0.out x4_1 p460 q460
   have hw460_1 := hx460_1
   have hw460_0 := hx460_0
   obtain rfl : ad459 = ad460 := (by injection e460)
   replace hx460_0 := hcell HB.out hx460_0
   replace hx460_1 := hcell HB.out hx460_1
   replace p460 := eq_true p460
   replace q460 := eq_true q460
   have p464 : 0 ≤ (x4_1 : Int) := of_decide_eq_true (by first | (with_reducible assumption) | assumption)
   have q464 : x4_1 < (l0.length : Int) := of_decide_eq_true (by first | (with_reducible assumption) | assumption)
   obtain ⟨ad464, e464, hx464_0, hx464_1⟩ := at_T50 HR0.out x4_1 p464 q464
   have hw464_1 := hx464_1
   have hw464_0 := hx464_0
   obtain rfl : ad459 = ad464 := (by injection e464)
   replace hx464_0 := hcell HB.out hx464_0
   replace hx464_1 := hcell HB.out hx464_1
   replace p464 := eq_true p464
   replace q464 := eq_true q464
   refine start_ (n := 25) (S := fun w' => w'.cell? (ad459.add ((x4_1).toNat * 2)) = some (.int .i64 ((rd_T50 l0 x4_1).f0)) ∧ w'.cell? ⟨(ad459.add ((x4_1).toNat * 2)).block, (ad459.add ((x4_1).toNat * 2)).off + 1, none⟩ = some (.string ((rd_T50 l0 x4_1).f1)) ∧ w'.cell? (ad459.add ((x4_1).toNat * 2)) = some (.int .i64 ((rd_T50 l0 x4_1).f0)) ∧ w'.cell? ⟨(ad459.add ((x4_1).toNat * 2)).block, (ad459.add ((x4_1).toNat * 2)).off + 1, none⟩ = some (.string ((rd_T50 l0 x4_1).f1)) ∧ w'.cell? (ad459.add ((x4_1).toNat * 2)) = some (.int .i64 ((rd_T50 l0 x4_1).f0)) ∧ w'.cell? ⟨(ad459.add ((x4_1).toNat * 2)).block, (ad459.add ((x4_1).toNat * 2)).off + 1, none⟩ = some (.string ((rd_T50 l0 x4_1).f1))) (ds := []) #[O, O, O, O, O, O, O, O, O, O, O, O, O, O, O, O, O, O, O, O, O, O, O, O, O] (by kernel_rfl) rfl rfl ⟨(hcell HB.out hw459_0), (hcell HB.out hw459_1), (hcell HB.out hw460_0), (hcell HB.out hw460_1), (hcell HB.out hw464_0), (hcell HB.out hw464_1)⟩ (fun hHeld => ?_); refine with_tabW intrusionref11_Written.tab5 intrusionref11_Written.bits5 (fun HT_ HW_ => ?_)
   generalize wr.drew = w6 at HB hx459_0 hx459_1 hx460_0 hx460_1 hx464_0 hx464_1 hHeld ⊢
   refine kP 0 11 #[I, O, O, O, O, O, O, O, O, O, O, O, O, O, O, O, O, O, O, O, O, O, O, O, O] ?_ (any_of HT_.out (by kernel_rfl))
   refine kP 1 12 #[I, I, O, O, O, O, O, O, O, O, O, O, O, O, O, O, O, O, O, O, O, O, O, O, O] ?_ (any_of HT_.out (by kernel_rfl))
   refine kP 2 13 #[I, I, I, O, O, O, O, O, O, O, O, O, O, O, O, O, O, O, O, O, O, O, O, O, O] ?_ (any_of HT_.out (by kernel_rfl))
   refine kP 3 14 #[I, I, I, I, O, O, O, O, O, O, O, O, O, O, O, O, O, O, O, O, O, O, O, O, O] ?_ (any_of HT_.out (by kernel_rfl))
   refine kP 4 15 #[I, I, I, I, I, O, O, O, O, O, O, O, O, O, O, O, O, O, O, O, O, O, O, O, O] ?_ (any_of HT_.out (by kernel_rfl))
   refine kP 7 18 #[I, I, I, I, I, O, O, I, O, O, O, O, O, O, O, O, O, O, O, O, O, O, O, O, O] ?_ (any_of HT_.out (by kernel_rfl))
   refine kP 8 19 #[I, I, I, I, I, O, O, I, I, O, O, O, O, O, O, O, O, O, O, O, O, O, O, O, O] ?_ (any_of HT_.out (by kernel_rfl))
   refine kP 9 20 #[I, I, I, I, I, O, O, I, I, I, O, O, O, O, O, O, O, O, O, O, O, O, O, O, O] ?_ (any_of HT_.out (by kernel_rfl))
   refine kP 10 21 #[I, I, I, I, I, O, O, I, I, I, I, O, O, O, O, O, O, O, O, O, O, O, O, O, O] ?_ (any_of HT_.out (by kernel_rfl))
   refine kP 18 29 #[I, I, I, I, I, O, O, I, I, I, I, O, O, O, O, O, O, O, I, O, O, O, O, O, O] ?_ (any_of HT_.out (by kernel_rfl))
   refine kP 19 30 #[I, I, I, I, I, O, O, I, I, I, I, O, O, O, O, O, O, O, I, I, O, O, O, O, O] ?_ (any_of HT_.out (by kernel_rfl))
   refine kP 20 31 #[I, I, I, I, I, O, O, I, I, I, I, O, O, O, O, O, O, O, I, I, I, O, O, O, O] ?_ (any_of HT_.out (by kernel_rfl))
   refine kP 21 32 #[I, I, I, I, I, O, O, I, I, I, I, O, O, O, O, O, O, O, I, I, I, I, O, O, O] ?_ (any_of HT_.out (by kernel_rfl))
   refine take_ (i := 5) (N := some 16) (v := ?_) (a' := ?_) #[I, I, I, I, I, I, O, I, I, I, I, O, O, O, O, O, O, O, I, I, I, I, O, O, O] rfl rfl (take_ofW HT_.out HW_.out (by kernel_rfl)) (fun _ _ _ h => h) (Or.inl ⟨by rfl, ?_⟩) hHeld ?_ ?_
   rotate_left
   ·rintro w' ⟨s0, s1, s2, s3, s4, s5⟩
    go_simp
    with_reducible rfl
   rotate_left
   ·simp only [Act.put, sA, sZ, sS, i64_w, i32_w]
    rfl
   refine kP 6 17 #[I, I, I, I, I, I, I, I, I, I, I, O, O, O, O, O, O, O, I, I, I, I, O, O, O] ?_ (any_of HT_.out (by kernel_rfl))
   refine take_ (i := 11) (N := some 22) (v := ?_) (a' := ?_) #[I, I, I, I, I, I, I, I, I, I, I, I, O, O, O, O, O, O, I, I, I, I, O, O, O] rfl rfl (take_ofW HT_.out HW_.out (by kernel_rfl)) (fun _ _ _ h => h) (Or.inl ⟨by rfl, ?_⟩) hHeld ?_ ?_
   rotate_left
   ·rintro w' ⟨s0, s1, s2, s3, s4, s5⟩
    go_simp
    with_reducible rfl
   rotate_left
   ·simp only [Act.put, sA, sZ, sS, i64_w, i32_w]
    rfl
   refine kP 12 23 #[I, I, I, I, I, I, I, I, I, I, I, I, I, O, O, O, O, O, I, I, I, I, O, O, O] ?_ (any_of HT_.out (by kernel_rfl))
   refine kP 13 24 #[I, I, I, I, I, I, I, I, I, I, I, I, I, I, O, O, O, O, I, I, I, I, O, O, O] ?_ (any_of HT_.out (by kernel_rfl))
   refine kP 14 25 #[I, I, I, I, I, I, I, I, I, I, I, I, I, I, I, O, O, O, I, I, I, I, O, O, O] ?_ (any_of HT_.out (by kernel_rfl))
   refine take_ (i := 22) (N := some 33) (v := ?_) (a' := ?_) #[I, I, I, I, I, I, I, I, I, I, I, I, I, I, I, O, O, O, I, I, I, I, I, O, O] rfl rfl (take_ofW HT_.out HW_.out (by kernel_rfl)) (fun _ _ _ h => h) (Or.inl ⟨by rfl, ?_⟩) hHeld ?_ ?_
   rotate_left
   ·rintro w' ⟨s0, s1, s2, s3, s4, s5⟩
    go_simp
    with_reducible rfl
   rotate_left
   ·simp only [Act.put, sA, sZ, sS, i64_w, i32_w]
    rfl
   refine one_ (i := 15) (N := some 26) #[I, I, I, I, I, I, I, I, I, I, I, I, I, I, I, I, O, O, I, I, I, I, I, O, O] rfl rfl (one_of HT_.out (by kernel_rfl)) (by decide) (fun K hK => ?_)
   refine Kd.R_lit_step (Kd.int .u8) _ 5 rfl (N := 26) rfl (xs := ([((rd_T50 l0 x4_1).f0) % 256, (wrap64 (2 + (((rd_T50 l0 x4_1).f1).size : Int))) % 256] : List Int)) (inner := [.int .u8 (((rd_T50 l0 x4_1).f0) % 256), .int .u8 ((wrap64 (2 + (((rd_T50 l0 x4_1).f1).size : Int))) % 256)]) (ok := fun _ => True) (okp := fun _ => True) kG ?hp (fun _ hk => hk) trivial (Below.refl _ _) (Nat.le_refl _) (by simp) ?_; (case hp => exact (Reps.one (show Kd.M (Kd.int .u8) _ _ _ (((rd_T50 l0 x4_1).f0) % 256) [.int .u8 (((rd_T50 l0 x4_1).f0) % 256)] from rfl) (Reps.one (show Kd.M (Kd.int .u8) _ _ _ ((wrap64 (2 + (((rd_T50 l0 x4_1).f1).size : Int))) % 256) [.int .u8 ((wrap64 (2 + (((rd_T50 l0 x4_1).f1).size : Int))) % 256)] from rfl) (Reps.none _ _))))
   intro v462 w7 ho8 hb hg_ hnew_
   clear hg_ hnew_
   (first | rw [← Ny461.out] at ho8 | (simp only [Int.reduceToNat] at ho8; rw [← Ny461.out] at ho8))
   have HO463 := As (Kd.R_lower ho8 (below_size (kB HB.out)))
   replace HB := As (below_step (kB HB.out) hb)
   clear hb ho8
   refine hK.out _ _ ⟨(hcell HB.out hw459_0), (hcell HB.out hw459_1), (hcell HB.out hw460_0), (hcell HB.out hw460_1), (hcell HB.out hw464_0), (hcell HB.out hw464_1)⟩ (fun hHeld => ?_)
   clear hK K
   refine nP ?_
   refine one_ (i := 16) (N := some 27) #[I, I, I, I, I, I, I, I, I, I, I, I, I, I, I, I, I, O, I, I, I, I, I, O, O] rfl rfl (one_of HT_.out (by kernel_rfl)) (by decide) (fun K hK => ?_)
   have hcv9 := own_string (P := Try.prog) Try.underlying46 Try.underlying5 Try.underlying9 (Kd.own_of_R HO463.out)
   refine value_ (w1 := ?_) (v := ?_) (by rfl) rfl ?_ ?_
   rotate_left 2
   ·go_simp
    constructor
    ·rfl
    rfl
   clear hcv9
   refine hK.out _ _ ⟨(hcell HB.out hw459_0), (hcell HB.out hw459_1), (hcell HB.out hw460_0), (hcell HB.out hw460_1), (hcell HB.out hw464_0), (hcell HB.out hw464_1)⟩ (fun hHeld => ?_)
   clear hK K
   refine nP ?_
   refine kP 17 28 #[I, I, I, I, I, I, I, I, I, I, I, I, I, I, I, I, I, I, I, I, I, I, I, O, O] ?_ (any_of HT_.out (by kernel_rfl))
   refine kP 23 34 #[I, I, I, I, I, I, I, I, I, I, I, I, I, I, I, I, I, I, I, I, I, I, I, I, O] ?_ (any_of HT_.out (by kernel_rfl))
   refine kP 24 3 #[I, I, I, I, I, I, I, I, I, I, I, I, I, I, I, I, I, I, I, I, I, I, I, I, I] ?_ (any_of HT_.out (by kernel_rfl))
   refine done_ (done_of HT_.out (by kernel_rfl)) ?_
   try go_wp2
   go_roundg k1
   case measure => have := HK1.out; omega
   case rel => exact ⟨((x3_1 ++ (strOfNums y461)) ++ ((rd_T50 l0 x4_1).f1)), (wrap64 (x4_1 + 1)), kS, kS, H', ⟨by have := HK1.out; omega⟩, ⟨kB HB.out⟩⟩
  rw [if_neg c2] at H
  have c2b0 : decide (x4_1 < (l0.length : Int)) = false := decide_eq_false c2
  clear c2
  have H' := As H
  clear H
  go_wp2
  go_loopg [3] k1 (fun kq v3 w' => ∃ (x3_2 : ByteArray), v3 = .string x3_2 ∧ Aside0 (intrusionref11_Written.l1 kq x3_2 = some r) ∧ Aside0 (kq ≤ k1) ∧ Aside0 (Below w.heap.size w w'))
  case atStart => exact ⟨(x3_1), kS, H', ⟨Nat.le_refl _⟩, ⟨kB HB.out⟩⟩
  clear H'
  try clear c2
  try clear c2b0
  obtain ⟨x3_2, rfl, HA, HK2, HB⟩ := hrel
  cases gk with
  | zero => exact absurd HA.out (by simp [intrusionref11_Written.l1])
  | succ k2 =>
   have H := HA.out
   clear HA
   simp only [intrusionref11_Written.l1] at H
   by_cases c10 : ((x3_2.size : Int) % 4) = 0
   ·rw [if_pos c10] at H
    have c10b0 : (((x3_2.size : Int) % 4) == 0) = true := beq_iff_eq.mpr c10
    have c10b1 : (((x3_2.size : Int) % 4) != 0) = false := bne_eq_false_iff_eq.mpr c10
    clear c10
    obtain rfl := Option.some.inj H
    go_wp2
    go_ret
    exact ⟨kE, by exact kB HB.out⟩
   rw [if_neg c10] at H
   have c10b0 : (((x3_2.size : Int) % 4) == 0) = false := beq_eq_false_iff_ne.mpr c10
   have c10b1 : (((x3_2.size : Int) % 4) != 0) = true := bne_iff_ne.mpr c10
   replace H := iS H
   obtain ⟨c11, H⟩ := H
   have c11b0 := eq_true c11
   have c11b1 := decide_eq_true c11
   try have c11b2 := eq_false (Nat.not_lt.2 c11)
   have H' := As H
   clear H
   go_wp2
   go_roundg k2
   case measure => have := HK1.out; have := HK2.out; omega
   case rel => exact ⟨(x3_2 ++ (⟨#[0]⟩ : ByteArray)), kS, H', ⟨by have := HK1.out; have := HK2.out; omega⟩, ⟨kB HB.out⟩⟩

/-! ### intrusionref01_Power: function 68 -/
def intrusionref01_Power.l0 : Nat → Int → Int → Int → Option (Int)
 | 0, _, _, _ => none
 | k + 1, x0, x3, x4 => if x4 < x0 then (intrusionref01_Power.l0 k x0 (wrap64 (x3 * 256)) (wrap64 (x4 + 1))) else (some x3)
def intrusionref01_Power.f (k : Nat) (a0 : Int) : Option (Int) := intrusionref01_Power.l0 k a0 1 0
theorem intrusionref01_Power.mono_l : ∀ k, (∀ y0 y1 y2, LeO (intrusionref01_Power.l0 k y0 y1 y2) (intrusionref01_Power.l0 (k + 1) y0 y1 y2))
 | 0 => fun _ _ _ r h => by simp [intrusionref01_Power.l0] at h
 | k + 1 => by
  have ih0 := intrusionref01_Power.mono_l k
  intro y0 y1 y2
  unfold intrusionref01_Power.l0
  repeat' first | with_reducible first | apply ih0 | apply LeO.refl | apply LeO.none | refine LeO.ite ?_ ?_ | refine LeO.bind ?_ (fun _ => ?_)
theorem intrusionref01_Power.mono : ∀ a0 k, LeO (intrusionref01_Power.f k a0) (intrusionref01_Power.f (k + 1) a0) := by
 intro a0 k
 have ih0 := intrusionref01_Power.mono_l k
 unfold intrusionref01_Power.f
 repeat' first | with_reducible first | apply ih0 | apply LeO.refl | apply LeO.none | refine LeO.ite ?_ ?_ | refine LeO.bind ?_ (fun _ => ?_)
set_option maxHeartbeats 8000000 in
set_option maxRecDepth 100000 in
theorem intrusionref01_Power.calls (k : Nat) (a0 : Int) (r : Int) (w : World) (h : intrusionref01_Power.f k a0 = some r) :
  Calls Try.prog 68 #[.int .i64 a0] w fun e w' => e = .returned (.int .i64 r) ∧ Drawn0 w w' := by
 have H : (intrusionref01_Power.l0 k a0 1 0) = some r := h
 clear h
 have H' := As H
 clear H
 go_enter Try.func68, Try.ntmps68
 go_wp2
 go_loopg [3, 4] k (fun kq v3 v4 w' => ∃ (x3_1 : Int) (x4_1 : Int), v3 = .int .i64 x3_1 ∧ v4 = .int .i64 x4_1 ∧ Aside0 (intrusionref01_Power.l0 kq a0 x3_1 x4_1 = some r) ∧ Aside0 (kq ≤ k) ∧ Drawn0 w w')
 case atStart => exact ⟨(1), (0), kS, kS, H', ⟨Nat.le_refl _⟩, by repeat (first | exact Drawn0.refl _ | apply Drawn0.step)⟩
 clear H'
 obtain ⟨x3_1, x4_1, rfl, rfl, HA, HK1, ⟨m1, rfl⟩⟩ := hrel
 cases gk with
 | zero => exact absurd HA.out (by simp [intrusionref01_Power.l0])
 | succ k1 =>
  have H := HA.out
  clear HA
  simp only [intrusionref01_Power.l0] at H
  by_cases c2 : x4_1 < a0
  ·rw [if_pos c2] at H
   have c2b0 : decide (x4_1 < a0) = true := decide_eq_true c2
   clear c2
   have H' := As H
   clear H
   go_wp2
   go_roundg k1
   case measure => have := HK1.out; omega
   case rel => exact ⟨(wrap64 (x3_1 * 256)), (wrap64 (x4_1 + 1)), kS, kS, H', ⟨by have := HK1.out; omega⟩, by repeat (first | exact Drawn0.refl _ | apply Drawn0.step)⟩
  rw [if_neg c2] at H
  have c2b0 : decide (x4_1 < a0) = false := decide_eq_false c2
  clear c2
  obtain rfl := Option.some.inj H
  go_wp2
  go_ret
  exact ⟨by first | rfl | (simp; done) | (simp [*]; done), by repeat (first | exact Drawn0.refl _ | apply Drawn0.step)⟩

end Go.Proofs.Ytobioaommmgehaa.X
-- short
-- short2
