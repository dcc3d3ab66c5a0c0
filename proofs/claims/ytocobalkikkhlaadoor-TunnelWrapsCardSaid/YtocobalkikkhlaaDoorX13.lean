/- Functions and their walks, printed by xprint.py. -/
import Derived.Test.YtocobalkikkhlaaDoorX0
namespace Go.Proofs.YtocobalkikkhlaaDoor.X
open Go.RowKit Go.Proofs.YtocobalkikkhlaaDoorW.PrintWords Go.Proofs.YtocobalkikkhlaaDoorW.PrintLast Go.Proofs.YtocobalkikkhlaaDoorW.PrintMore
attribute [local go_sem] max2_int min2_int max_two min_two max_three min_three max_four min_four   -- for this text's walks alone
set_option linter.unusedVariables false
set_option linter.unusedSimpArgs false

/-! ### intrusionref02_Add: function 58 -/
def intrusionref02_Add.f (a0 : Int) (a1 : Int) : Option (Int) := if (wrap64 ((Go.bits .and .i64 a0 65535) + (Go.bits .and .i64 a1 65535))) > 65535 then (some (wrap64 ((wrap64 ((Go.bits .and .i64 a0 65535) + (Go.bits .and .i64 a1 65535))) - 65535))) else (some (wrap64 ((Go.bits .and .i64 a0 65535) + (Go.bits .and .i64 a1 65535))))
set_option maxHeartbeats 8000000 in
set_option maxRecDepth 100000 in
theorem intrusionref02_Add.calls (a0 : Int) (a1 : Int) (r : Int) (w : World) (h : intrusionref02_Add.f a0 a1 = some r) :
  Calls Tryd.prog 58 #[.int .i64 a0, .int .i64 a1] w fun e w' => e = .returned (.int .i64 r) ∧ Drawn0 w w' := by
 have H : (if (wrap64 ((Go.bits .and .i64 a0 65535) + (Go.bits .and .i64 a1 65535))) > 65535 then (some (wrap64 ((wrap64 ((Go.bits .and .i64 a0 65535) + (Go.bits .and .i64 a1 65535))) - 65535))) else (some (wrap64 ((Go.bits .and .i64 a0 65535) + (Go.bits .and .i64 a1 65535))))) = some r := h
 clear h
 by_cases c3 : (wrap64 ((Go.bits .and .i64 a0 65535) + (Go.bits .and .i64 a1 65535))) > 65535
 ·rw [if_pos c3] at H
  have c3b0 : decide (65535 < (wrap64 ((Go.bits .and .i64 a0 65535) + (Go.bits .and .i64 a1 65535)))) = true := decide_eq_true c3
  clear c3
  obtain rfl := Option.some.inj H
  go_enter Tryd.func58, Tryd.ntmps58
  go_wp2
  go_ret
  exact ⟨by first | rfl | (simp; done) | (simp [*]; done), by repeat (first | exact Drawn0.refl _ | apply Drawn0.step)⟩
 rw [if_neg c3] at H
 have c3b0 : decide (65535 < (wrap64 ((Go.bits .and .i64 a0 65535) + (Go.bits .and .i64 a1 65535)))) = false := decide_eq_false c3
 clear c3
 obtain rfl := Option.some.inj H
 go_enter Tryd.func58, Tryd.ntmps58
 go_wp2
 go_ret
 exact ⟨by first | rfl | (simp; done) | (simp [*]; done), by repeat (first | exact Drawn0.refl _ | apply Drawn0.step)⟩

/-! ### intrusionref02_Sum: function 34 -/
def intrusionref02_Sum.l0 : Nat → ByteArray → Int → Int → Option (Int)
 | 0, _, _, _ => none
 | k + 1, x0, x3, x4 => if x4 < (x0.size : Int) then (if 0 ≤ x4 then (if (wrap64 (x4 + 1)) < (x0.size : Int) then (if 0 ≤ (wrap64 (x4 + 1)) then ((intrusionref02_Add.f x3 (wrap64 ((wrap64 ((wrap64 (bt x0 x4)) * 256)) + (wrap64 (bt x0 (wrap64 (x4 + 1))))))).bind fun t295 => (intrusionref02_Sum.l0 k x0 t295 (wrap64 (x4 + 2)))) else (none)) else ((intrusionref02_Add.f x3 (wrap64 ((wrap64 (bt x0 x4)) * 256))).bind fun t296 => (intrusionref02_Sum.l0 k x0 t296 (wrap64 (x4 + 2))))) else (none)) else (some (wrap64 (65535 - x3)))
def intrusionref02_Sum.f (k : Nat) (a0 : ByteArray) : Option (Int) := intrusionref02_Sum.l0 k a0 0 0
theorem intrusionref02_Sum.mono_l : ∀ k, (∀ y0 y1 y2, LeO (intrusionref02_Sum.l0 k y0 y1 y2) (intrusionref02_Sum.l0 (k + 1) y0 y1 y2))
 | 0 => fun _ _ _ r h => by simp [intrusionref02_Sum.l0] at h
 | k + 1 => by
  have ih0 := intrusionref02_Sum.mono_l k
  intro y0 y1 y2
  unfold intrusionref02_Sum.l0
  repeat' first | with_reducible first | apply ih0 | apply LeO.refl | apply LeO.none | refine LeO.ite ?_ ?_ | refine LeO.bind ?_ (fun _ => ?_)
theorem intrusionref02_Sum.mono : ∀ a0 k, LeO (intrusionref02_Sum.f k a0) (intrusionref02_Sum.f (k + 1) a0) := by
 intro a0 k
 have ih0 := intrusionref02_Sum.mono_l k
 unfold intrusionref02_Sum.f
 repeat' first | with_reducible first | apply ih0 | apply LeO.refl | apply LeO.none | refine LeO.ite ?_ ?_ | refine LeO.bind ?_ (fun _ => ?_)
set_option maxHeartbeats 8000000 in
set_option maxRecDepth 100000 in
theorem intrusionref02_Sum.calls (k : Nat) (a0 : ByteArray) (r : Int) (w : World) (h : intrusionref02_Sum.f k a0 = some r) :
  Calls Tryd.prog 34 #[.string a0] w fun e w' => e = .returned (.int .i64 r) ∧ Drawn0 w w' := by
 have H : (intrusionref02_Sum.l0 k a0 0 0) = some r := h
 clear h
 have H' := As H
 clear H
 go_enter Tryd.func34, Tryd.ntmps34
 go_wp2
 go_loopg [3, 4] k (fun kq v3 v4 w' => ∃ (x3_1 : Int) (x4_1 : Int), v3 = .int .i64 x3_1 ∧ v4 = .int .i64 x4_1 ∧ Aside0 (intrusionref02_Sum.l0 kq a0 x3_1 x4_1 = some r) ∧ Aside0 (kq ≤ k) ∧ Drawn0 w w')
 case atStart => exact ⟨(0), (0), kS, kS, H', ⟨Nat.le_refl _⟩, by repeat (first | exact Drawn0.refl _ | apply Drawn0.step)⟩
 clear H'
 obtain ⟨x3_1, x4_1, rfl, rfl, HA, HK1, ⟨m1, rfl⟩⟩ := hrel
 cases gk with
 | zero => exact absurd HA.out (by simp [intrusionref02_Sum.l0])
 | succ k1 =>
  have H := HA.out
  clear HA
  simp only [intrusionref02_Sum.l0] at H
  by_cases c2 : x4_1 < (a0.size : Int)
  ·rw [if_pos c2] at H
   have c2b0 : decide (x4_1 < (a0.size : Int)) = true := decide_eq_true c2
   clear c2
   by_cases c3 : 0 ≤ x4_1
   ·rw [if_pos c3] at H
    have c3b0 : decide (0 ≤ x4_1) = true := decide_eq_true c3
    clear c3
    by_cases c5 : (wrap64 (x4_1 + 1)) < (a0.size : Int)
    ·rw [if_pos c5] at H
     have c5b0 : decide ((wrap64 (x4_1 + 1)) < (a0.size : Int)) = true := decide_eq_true c5
     clear c5
     obtain ⟨ji6, hji6⟩ : ∃ j_ : Int, (wrap64 (x4_1 + 1)) = j_ := ⟨_, rfl⟩
     replace H : (if 0 ≤ (ji6) then ((intrusionref02_Add.f x3_1 (wrap64 ((wrap64 ((wrap64 (bt a0 x4_1)) * 256)) + (wrap64 (bt a0 (ji6)))))).bind fun t295 => (intrusionref02_Sum.l0 k1 a0 t295 (wrap64 (x4_1 + 2)))) else (none)) = some r := by first | (rw [hji6] at H; exact H) | (simp only [hji6] at H ⊢; exact H)
     (try rw [hji6] at c5b0)
     have hji6w : (IntKind.i64.wrap (x4_1 + 1)) = ji6 := (i64_w _).trans hji6
     by_cases c7 : 0 ≤ (ji6)
     ·rw [if_pos c7] at H
      have c7b0 : decide (0 ≤ (ji6)) = true := decide_eq_true c7
      clear c7
      replace H := Option.bind_eq_some_iff.mp H
      obtain ⟨t295, A90, H⟩ := H
      replace H : (intrusionref02_Sum.l0 k1 a0 t295 (wrap64 (x4_1 + 2))) = some r := H
      have A9 := As A90
      clear A90
      have H' := As H
      clear H
      have p4 : 0 ≤ (x4_1 : Int) := of_decide_eq_true (by first | (with_reducible assumption) | assumption)
      have q4 : x4_1 < (a0.size : Int) := of_decide_eq_true (by first | (with_reducible assumption) | assumption)
      have hx4 := bt_at a0 x4_1
      replace p4 := eq_true p4
      replace q4 := eq_true q4
      have p8 : 0 ≤ ((ji6) : Int) := of_decide_eq_true (by first | (with_reducible assumption) | assumption)
      have q8 : (ji6) < (a0.size : Int) := of_decide_eq_true (by first | (with_reducible assumption) | assumption)
      have hx8 := bt_at a0 (ji6)
      replace p8 := eq_true p8
      replace q8 := eq_true q8
      go_wp2_with (first | ((with_reducible refine gate_callee (f := 58) rfl ?_); refine goesL_ (some 31) rfl rfl Tryd.func58 (by kernel_rfl) rfl #[.int .i64 x3_1, .int .i64 (wrap64 ((wrap64 ((wrap64 (bt a0 x4_1)) * 256)) + (wrap64 (bt a0 (ji6)))))] rfl (by (try simp only [List.map_toArray, List.map_cons, List.map_nil]); first | done | (simp only [hji6]; rfl) | rfl | (simp only [List.length_drop, List.length_take]; rfl)) ?_; (with_reducible refine (intrusionref02_Add.calls x3_1 (wrap64 ((wrap64 ((wrap64 (bt a0 x4_1)) * 256)) + (wrap64 (bt a0 (ji6))))) t295 _ A9.out).mono ?_); rintro e w' ⟨rfl, ⟨nd, rfl⟩⟩; refine ⟨_, rfl, ?_⟩))
      go_roundg k1
      case measure => have := HK1.out; omega
      case rel => exact ⟨(t295), (wrap64 (x4_1 + 2)), kS, kS, H', ⟨by have := HK1.out; omega⟩, by repeat (first | exact Drawn0.refl _ | apply Drawn0.step)⟩
     rw [if_neg c7] at H
     exact absurd H (by simp)
    rw [if_neg c5] at H
    have c5b0 : decide ((wrap64 (x4_1 + 1)) < (a0.size : Int)) = false := decide_eq_false c5
    clear c5
    replace H := Option.bind_eq_some_iff.mp H
    obtain ⟨t296, A100, H⟩ := H
    replace H : (intrusionref02_Sum.l0 k1 a0 t296 (wrap64 (x4_1 + 2))) = some r := H
    have A10 := As A100
    clear A100
    have H' := As H
    clear H
    have p4 : 0 ≤ (x4_1 : Int) := of_decide_eq_true (by first | (with_reducible assumption) | assumption)
    have q4 : x4_1 < (a0.size : Int) := of_decide_eq_true (by first | (with_reducible assumption) | assumption)
    have hx4 := bt_at a0 x4_1
    replace p4 := eq_true p4
    replace q4 := eq_true q4
    go_wp2_with (first | ((with_reducible refine gate_callee (f := 58) rfl ?_); refine goesL_ (some 31) rfl rfl Tryd.func58 (by kernel_rfl) rfl #[.int .i64 x3_1, .int .i64 (wrap64 ((wrap64 (bt a0 x4_1)) * 256))] rfl kA ?_; (with_reducible refine (intrusionref02_Add.calls x3_1 (wrap64 ((wrap64 (bt a0 x4_1)) * 256)) t296 _ A10.out).mono ?_); rintro e w' ⟨rfl, ⟨nd, rfl⟩⟩; refine ⟨_, rfl, ?_⟩))
    go_roundg k1
    case measure => have := HK1.out; omega
    case rel => exact ⟨(t296), (wrap64 (x4_1 + 2)), kS, kS, H', ⟨by have := HK1.out; omega⟩, by repeat (first | exact Drawn0.refl _ | apply Drawn0.step)⟩
   rw [if_neg c3] at H
   exact absurd H (by simp)
  rw [if_neg c2] at H
  have c2b0 : decide (x4_1 < (a0.size : Int)) = false := decide_eq_false c2
  clear c2
  obtain rfl := Option.some.inj H
  go_wp2
  go_ret
  exact ⟨by first | rfl | (simp; done) | (simp [*]; done), by repeat (first | exact Drawn0.refl _ | apply Drawn0.step)⟩

/-! ### intrusionref07_Fine: function 114 -/
def intrusionref07_Fine.f (a0_0 : Bool) (a0_1 : Int) (a0_2 : Int) : Option (Bool) := if a0_0 = true then (some true) else (if a0_1 = 0 then (some (decide (a0_2 < 4294967296))) else (some false))
set_option maxHeartbeats 8000000 in
set_option maxRecDepth 100000 in
theorem intrusionref07_Fine.calls (a0_0 : Bool) (a0_1 : Int) (a0_2 : Int) (r : Bool) (w : World) (h : intrusionref07_Fine.f a0_0 a0_1 a0_2 = some r) :
  Calls Tryd.prog 114 #[.agg #[.bool a0_0, .int .u64 a0_1, .int .u64 a0_2]] w fun e w' => e = .returned (.bool r) ∧ Below w.heap.size w w' := by
 have hu24 := Tryd.underlying24
 have HB := As (Below.refl w.heap.size w)
 have H : (if a0_0 = true then (some true) else (if a0_1 = 0 then (some (decide (a0_2 < 4294967296))) else (some false))) = some r := h
 clear h
 by_cases c2 : a0_0 = true
 ·subst c2
  have H1 : (some true) = some r := by rw [if_pos rfl] at H; exact H
  clear H
  have H := H1
  clear H1
  obtain rfl := Option.some.inj H
  go_enter Tryd.func114, Tryd.ntmps114
  go_wp2_with (first | ((with_reducible refine gate_dst (N := 1) rfl ?_); refine box_event rfl (N := 1) rfl (cs := #[.bool true, .int .u64 a0_1, .int .u64 a0_2]) (t := 24) kG ?_; intro gb304 hg w3 hbox hb; have BK304 := As (hbox); have GW304 := As ((by rw [hg]; exact (below_size (kB HB.out)) : w.heap.size ≤ gb304)); have GE304 := As ((by rw [hg]; exact (below_size (kB HB.out)) : w.heap.size ≤ gb304)); replace HB := As (below_step (kB HB.out) hb); clear hb hbox hg; have hcz4_0 := cells_3 BK304.out; have hfz4_0 := fun j_ => blk_frozen BK304.out j_))
  go_ret
  exact ⟨kE, by exact kB1 HB.out GE304.out⟩
 replace c2 := Bool.eq_false_iff.mpr c2
 subst c2
 have H1 : (if a0_1 = 0 then (some (decide (a0_2 < 4294967296))) else (some false)) = some r := by rw [if_neg (show ¬ (false = true) by decide)] at H; exact H
 clear H
 have H := H1
 clear H1
 by_cases c5 : a0_1 = 0
 ·rw [if_pos c5] at H
  have c5b0 : (a0_1 == 0) = true := beq_iff_eq.mpr c5
  have c5b1 : (a0_1 != 0) = false := bne_eq_false_iff_eq.mpr c5
  clear c5
  obtain rfl := Option.some.inj H
  go_enter Tryd.func114, Tryd.ntmps114
  go_wp2_with (first | ((with_reducible refine gate_dst (N := 1) rfl ?_); refine box_event rfl (N := 1) rfl (cs := #[.bool false, .int .u64 a0_1, .int .u64 a0_2]) (t := 24) kG ?_; intro gb304 hg w6 hbox hb; have BK304 := As (hbox); have GW304 := As ((by rw [hg]; exact (below_size (kB HB.out)) : w.heap.size ≤ gb304)); have GE304 := As ((by rw [hg]; exact (below_size (kB HB.out)) : w.heap.size ≤ gb304)); replace HB := As (below_step (kB HB.out) hb); clear hb hbox hg; have hcz7_0 := cells_3 BK304.out; have hfz7_0 := fun j_ => blk_frozen BK304.out j_))
  go_ret
  exact ⟨kE, by exact kB1 HB.out GE304.out⟩
 rw [if_neg c5] at H
 have c5b0 : (a0_1 == 0) = false := beq_eq_false_iff_ne.mpr c5
 have c5b1 : (a0_1 != 0) = true := bne_iff_ne.mpr c5
 obtain rfl := Option.some.inj H
 go_enter Tryd.func114, Tryd.ntmps114
 go_wp2_with (first | ((with_reducible refine gate_dst (N := 1) rfl ?_); refine box_event rfl (N := 1) rfl (cs := #[.bool false, .int .u64 a0_1, .int .u64 a0_2]) (t := 24) kG ?_; intro gb304 hg w8 hbox hb; have BK304 := As (hbox); have GW304 := As ((by rw [hg]; exact (below_size (kB HB.out)) : w.heap.size ≤ gb304)); have GE304 := As ((by rw [hg]; exact (below_size (kB HB.out)) : w.heap.size ≤ gb304)); replace HB := As (below_step (kB HB.out) hb); clear hb hbox hg; have hcz9_0 := cells_3 BK304.out; have hfz9_0 := fun j_ => blk_frozen BK304.out j_))
 go_ret
 exact ⟨kE, by exact kB1 HB.out GE304.out⟩

/-! ### intrusionref13_Fit: function 93 -/
def intrusionref13_Fit.f (b0 : Bool) (b1 : Int) (b2 : Int) (d0 : Bool) (d1 : Int) (d2 : Int) : Option (Bool) := (intrusionref07_Fine.f b0 b1 b2).bind fun t307 => (if t307 = true then ((intrusionref07_Fine.f d0 d1 d2).bind fun t308 => (if t308 = true then (some (b0 == d0)) else (some false))) else (some false))
set_option maxHeartbeats 8000000 in
set_option maxRecDepth 100000 in
theorem intrusionref13_Fit.calls (b0 : Bool) (b1 : Int) (b2 : Int) (d0 : Bool) (d1 : Int) (d2 : Int) (r : Bool) (w : World) (h : intrusionref13_Fit.f b0 b1 b2 d0 d1 d2 = some r) :
  Calls Tryd.prog 93 #[.agg #[.bool b0, .int .u64 b1, .int .u64 b2], .agg #[.bool d0, .int .u64 d1, .int .u64 d2]] w fun e w' => e = .returned (.bool r) ∧ Below w.heap.size w w' := by
 have hu24 := Tryd.underlying24
 have HB := As (Below.refl w.heap.size w)
 have H : ((intrusionref07_Fine.f b0 b1 b2).bind fun t307 => (if t307 = true then ((intrusionref07_Fine.f d0 d1 d2).bind fun t308 => (if t308 = true then (some (b0 == d0)) else (some false))) else (some false))) = some r := h
 clear h
 replace H := Option.bind_eq_some_iff.mp H
 obtain ⟨t307, A30, H⟩ := H
 replace H : (if t307 = true then ((intrusionref07_Fine.f d0 d1 d2).bind fun t308 => (if t308 = true then (some (b0 == d0)) else (some false))) else (some false)) = some r := H
 have A3 := As A30
 clear A30
 by_cases c4 : t307 = true
 ·subst c4
  have H1 : ((intrusionref07_Fine.f d0 d1 d2).bind fun t308 => (if t308 = true then (some (b0 == d0)) else (some false))) = some r := by rw [if_pos rfl] at H; exact H
  clear H
  have H := H1
  clear H1
  replace H := Option.bind_eq_some_iff.mp H
  obtain ⟨t308, A50, H⟩ := H
  replace H : (if t308 = true then (some (b0 == d0)) else (some false)) = some r := H
  have A5 := As A50
  clear A50
  by_cases c6 : t308 = true
  ·subst c6
   have H1 : (some (b0 == d0)) = some r := by rw [if_pos rfl] at H; exact H
   clear H
   have H := H1
   clear H1
   obtain rfl := Option.some.inj H
   go_enter Tryd.func93, Tryd.ntmps93
   go_wp2_with (first | ((with_reducible refine gate_dst (N := 2) rfl ?_); refine box_event rfl (N := 2) rfl (cs := #[.bool b0, .int .u64 b1, .int .u64 b2]) (t := 24) kG ?_; intro gb305 hg w7 hbox hb; have BK305 := As (hbox); have GW305 := As ((by rw [hg]; exact (below_size (kB HB.out)) : w.heap.size ≤ gb305)); have GE305 := As ((by rw [hg]; exact (below_size (kB HB.out)) : w.heap.size ≤ gb305)); replace HB := As (below_step (kB HB.out) hb); clear hb hbox hg) | ((with_reducible refine gate_dst (N := 3) rfl ?_); refine box_event rfl (N := 3) rfl (cs := #[.bool d0, .int .u64 d1, .int .u64 d2]) (t := 24) kG ?_; intro gb306 hg w8 hbox hb; have BK306 := As (hbox); have GW306 := As ((by rw [hg]; exact (below_size (kB1 HB.out GE305.out)) : w.heap.size ≤ gb306)); have GE306 := As ((by rw [hg]; exact (below_size (kB1 HB.out GE305.out)) : w.heap.size ≤ gb306)); replace HB := As (below_step (kB1 HB.out GE305.out) hb); have NB305_306 := As ((by rw [hg]; exact Nat.ne_of_lt (blk_lt (kb BK305.out)) : gb305 ≠ gb306)); have NB306_305 := As ((by rw [hg]; exact Nat.ne_of_gt (blk_lt (kb BK305.out)) : gb306 ≠ gb305)); replace BK305 := As (blk_below (kb BK305.out) hb); clear hb hbox hg; have hnb9 := NB305_306.out; have hnc9 := NB306_305.out; have hcz10_0 := cells_3 BK305.out; have hfz10_0 := fun j_ => blk_frozen BK305.out j_) | ((with_reducible refine gate_callee (f := 114) rfl ?_); refine goesL_ (some 6) rfl rfl Tryd.func114 (by kernel_rfl) rfl #[.agg #[.bool b0, .int .u64 b1, .int .u64 b2]] rfl kA ?_; (with_reducible refine (intrusionref07_Fine.calls b0 b1 b2 true _ A3.out).mono ?_); rintro e w11 ⟨rfl, hb⟩; refine ⟨_, rfl, ?_⟩; replace BK305 := As (blk_below (kb BK305.out) hb); replace BK306 := As (blk_below (kb BK306.out) hb); replace HB := As (below_step (kB2 HB.out GE305.out GE306.out) hb); (try clear hb); have hcz12_0 := cells_3 BK306.out; have hfz12_0 := fun j_ => blk_frozen BK306.out j_) | (go_at_call 114; (with_reducible refine (intrusionref07_Fine.calls d0 d1 d2 true _ A5.out).mono ?_); rintro e w13 ⟨rfl, hb⟩; replace BK305 := As (blk_below (kb BK305.out) hb); replace BK306 := As (blk_below (kb BK306.out) hb); replace HB := As (below_step (kB2 HB.out GE305.out GE306.out) hb); (try clear hb); have hcz14_0 := cells_3 BK305.out; have hfz14_0 := fun j_ => blk_frozen BK305.out j_; have hcz15_0 := cells_3 BK306.out; have hfz15_0 := fun j_ => blk_frozen BK306.out j_))
   go_ret
   exact ⟨kE, by exact kB2 HB.out GE305.out GE306.out⟩
  replace c6 := Bool.eq_false_iff.mpr c6
  subst c6
  have H1 : (some false) = some r := by rw [if_neg (show ¬ (false = true) by decide)] at H; exact H
  clear H
  have H := H1
  clear H1
  obtain rfl := Option.some.inj H
  go_enter Tryd.func93, Tryd.ntmps93
  go_wp2_with (first | ((with_reducible refine gate_dst (N := 2) rfl ?_); refine box_event rfl (N := 2) rfl (cs := #[.bool b0, .int .u64 b1, .int .u64 b2]) (t := 24) kG ?_; intro gb305 hg w16 hbox hb; have BK305 := As (hbox); have GW305 := As ((by rw [hg]; exact (below_size (kB HB.out)) : w.heap.size ≤ gb305)); have GE305 := As ((by rw [hg]; exact (below_size (kB HB.out)) : w.heap.size ≤ gb305)); replace HB := As (below_step (kB HB.out) hb); clear hb hbox hg) | ((with_reducible refine gate_dst (N := 3) rfl ?_); refine box_event rfl (N := 3) rfl (cs := #[.bool d0, .int .u64 d1, .int .u64 d2]) (t := 24) kG ?_; intro gb306 hg w17 hbox hb; have BK306 := As (hbox); have GW306 := As ((by rw [hg]; exact (below_size (kB1 HB.out GE305.out)) : w.heap.size ≤ gb306)); have GE306 := As ((by rw [hg]; exact (below_size (kB1 HB.out GE305.out)) : w.heap.size ≤ gb306)); replace HB := As (below_step (kB1 HB.out GE305.out) hb); have NB305_306 := As ((by rw [hg]; exact Nat.ne_of_lt (blk_lt (kb BK305.out)) : gb305 ≠ gb306)); have NB306_305 := As ((by rw [hg]; exact Nat.ne_of_gt (blk_lt (kb BK305.out)) : gb306 ≠ gb305)); replace BK305 := As (blk_below (kb BK305.out) hb); clear hb hbox hg; have hnb18 := NB305_306.out; have hnc18 := NB306_305.out; have hcz19_0 := cells_3 BK305.out; have hfz19_0 := fun j_ => blk_frozen BK305.out j_) | ((with_reducible refine gate_callee (f := 114) rfl ?_); refine goesL_ (some 6) rfl rfl Tryd.func114 (by kernel_rfl) rfl #[.agg #[.bool b0, .int .u64 b1, .int .u64 b2]] rfl kA ?_; (with_reducible refine (intrusionref07_Fine.calls b0 b1 b2 true _ A3.out).mono ?_); rintro e w20 ⟨rfl, hb⟩; refine ⟨_, rfl, ?_⟩; replace BK305 := As (blk_below (kb BK305.out) hb); replace BK306 := As (blk_below (kb BK306.out) hb); replace HB := As (below_step (kB2 HB.out GE305.out GE306.out) hb); (try clear hb); have hcz21_0 := cells_3 BK306.out; have hfz21_0 := fun j_ => blk_frozen BK306.out j_) | (go_at_call 114; (with_reducible refine (intrusionref07_Fine.calls d0 d1 d2 false _ A5.out).mono ?_); rintro e w22 ⟨rfl, hb⟩; replace BK305 := As (blk_below (kb BK305.out) hb); replace BK306 := As (blk_below (kb BK306.out) hb); replace HB := As (below_step (kB2 HB.out GE305.out GE306.out) hb); (try clear hb)))
  go_ret
  exact ⟨kE, by exact kB2 HB.out GE305.out GE306.out⟩
 replace c4 := Bool.eq_false_iff.mpr c4
 subst c4
 have H1 : (some false) = some r := by rw [if_neg (show ¬ (false = true) by decide)] at H; exact H
 clear H
 have H := H1
 clear H1
 obtain rfl := Option.some.inj H
 go_enter Tryd.func93, Tryd.ntmps93
 go_wp2_with (first | ((with_reducible refine gate_dst (N := 2) rfl ?_); refine box_event rfl (N := 2) rfl (cs := #[.bool b0, .int .u64 b1, .int .u64 b2]) (t := 24) kG ?_; intro gb305 hg w23 hbox hb; have BK305 := As (hbox); have GW305 := As ((by rw [hg]; exact (below_size (kB HB.out)) : w.heap.size ≤ gb305)); have GE305 := As ((by rw [hg]; exact (below_size (kB HB.out)) : w.heap.size ≤ gb305)); replace HB := As (below_step (kB HB.out) hb); clear hb hbox hg) | ((with_reducible refine gate_dst (N := 3) rfl ?_); refine box_event rfl (N := 3) rfl (cs := #[.bool d0, .int .u64 d1, .int .u64 d2]) (t := 24) kG ?_; intro gb306 hg w24 hbox hb; have BK306 := As (hbox); have GW306 := As ((by rw [hg]; exact (below_size (kB1 HB.out GE305.out)) : w.heap.size ≤ gb306)); have GE306 := As ((by rw [hg]; exact (below_size (kB1 HB.out GE305.out)) : w.heap.size ≤ gb306)); replace HB := As (below_step (kB1 HB.out GE305.out) hb); have NB305_306 := As ((by rw [hg]; exact Nat.ne_of_lt (blk_lt (kb BK305.out)) : gb305 ≠ gb306)); have NB306_305 := As ((by rw [hg]; exact Nat.ne_of_gt (blk_lt (kb BK305.out)) : gb306 ≠ gb305)); replace BK305 := As (blk_below (kb BK305.out) hb); clear hb hbox hg; have hnb25 := NB305_306.out; have hnc25 := NB306_305.out; have hcz26_0 := cells_3 BK305.out; have hfz26_0 := fun j_ => blk_frozen BK305.out j_) | ((with_reducible refine gate_callee (f := 114) rfl ?_); refine goesL_ (some 6) rfl rfl Tryd.func114 (by kernel_rfl) rfl #[.agg #[.bool b0, .int .u64 b1, .int .u64 b2]] rfl kA ?_; (with_reducible refine (intrusionref07_Fine.calls b0 b1 b2 false _ A3.out).mono ?_); rintro e w27 ⟨rfl, hb⟩; refine ⟨_, rfl, ?_⟩; replace BK305 := As (blk_below (kb BK305.out) hb); replace BK306 := As (blk_below (kb BK306.out) hb); replace HB := As (below_step (kB2 HB.out GE305.out GE306.out) hb); (try clear hb)))
 go_ret
 exact ⟨kE, by exact kB2 HB.out GE305.out GE306.out⟩

/-! ### intrusionref02_valid: function 121 -/
def intrusionref02_valid.f (a0_0 : Bool) (a0_1 : Int) (a0_2 : Int) : Option (Bool) := if a0_0 = true then (some true) else (if a0_1 = 0 then (some (decide (a0_2 < 4294967296))) else (some false))
set_option maxHeartbeats 8000000 in
set_option maxRecDepth 100000 in
theorem intrusionref02_valid.calls (a0_0 : Bool) (a0_1 : Int) (a0_2 : Int) (r : Bool) (w : World) (h : intrusionref02_valid.f a0_0 a0_1 a0_2 = some r) :
  Calls Tryd.prog 121 #[.agg #[.bool a0_0, .int .u64 a0_1, .int .u64 a0_2]] w fun e w' => e = .returned (.bool r) ∧ Below w.heap.size w w' := by
 have hu24 := Tryd.underlying24
 have HB := As (Below.refl w.heap.size w)
 have H : (if a0_0 = true then (some true) else (if a0_1 = 0 then (some (decide (a0_2 < 4294967296))) else (some false))) = some r := h
 clear h
 by_cases c2 : a0_0 = true
 ·subst c2
  have H1 : (some true) = some r := by rw [if_pos rfl] at H; exact H
  clear H
  have H := H1
  clear H1
  obtain rfl := Option.some.inj H
  go_enter Tryd.func121, Tryd.ntmps121
  go_wp2_with (first | ((with_reducible refine gate_dst (N := 1) rfl ?_); refine box_event rfl (N := 1) rfl (cs := #[.bool true, .int .u64 a0_1, .int .u64 a0_2]) (t := 24) kG ?_; intro gb309 hg w3 hbox hb; have BK309 := As (hbox); have GW309 := As ((by rw [hg]; exact (below_size (kB HB.out)) : w.heap.size ≤ gb309)); have GE309 := As ((by rw [hg]; exact (below_size (kB HB.out)) : w.heap.size ≤ gb309)); replace HB := As (below_step (kB HB.out) hb); clear hb hbox hg; have hcz4_0 := cells_3 BK309.out; have hfz4_0 := fun j_ => blk_frozen BK309.out j_))
  go_ret
  exact ⟨kE, by exact kB1 HB.out GE309.out⟩
 replace c2 := Bool.eq_false_iff.mpr c2
 subst c2
 have H1 : (if a0_1 = 0 then (some (decide (a0_2 < 4294967296))) else (some false)) = some r := by rw [if_neg (show ¬ (false = true) by decide)] at H; exact H
 clear H
 have H := H1
 clear H1
 by_cases c5 : a0_1 = 0
 ·rw [if_pos c5] at H
  have c5b0 : (a0_1 == 0) = true := beq_iff_eq.mpr c5
  have c5b1 : (a0_1 != 0) = false := bne_eq_false_iff_eq.mpr c5
  clear c5
  obtain rfl := Option.some.inj H
  go_enter Tryd.func121, Tryd.ntmps121
  go_wp2_with (first | ((with_reducible refine gate_dst (N := 1) rfl ?_); refine box_event rfl (N := 1) rfl (cs := #[.bool false, .int .u64 a0_1, .int .u64 a0_2]) (t := 24) kG ?_; intro gb309 hg w6 hbox hb; have BK309 := As (hbox); have GW309 := As ((by rw [hg]; exact (below_size (kB HB.out)) : w.heap.size ≤ gb309)); have GE309 := As ((by rw [hg]; exact (below_size (kB HB.out)) : w.heap.size ≤ gb309)); replace HB := As (below_step (kB HB.out) hb); clear hb hbox hg; have hcz7_0 := cells_3 BK309.out; have hfz7_0 := fun j_ => blk_frozen BK309.out j_))
  go_ret
  exact ⟨kE, by exact kB1 HB.out GE309.out⟩
 rw [if_neg c5] at H
 have c5b0 : (a0_1 == 0) = false := beq_eq_false_iff_ne.mpr c5
 have c5b1 : (a0_1 != 0) = true := bne_iff_ne.mpr c5
 obtain rfl := Option.some.inj H
 go_enter Tryd.func121, Tryd.ntmps121
 go_wp2_with (first | ((with_reducible refine gate_dst (N := 1) rfl ?_); refine box_event rfl (N := 1) rfl (cs := #[.bool false, .int .u64 a0_1, .int .u64 a0_2]) (t := 24) kG ?_; intro gb309 hg w8 hbox hb; have BK309 := As (hbox); have GW309 := As ((by rw [hg]; exact (below_size (kB HB.out)) : w.heap.size ≤ gb309)); have GE309 := As ((by rw [hg]; exact (below_size (kB HB.out)) : w.heap.size ≤ gb309)); replace HB := As (below_step (kB HB.out) hb); clear hb hbox hg; have hcz9_0 := cells_3 BK309.out; have hfz9_0 := fun j_ => blk_frozen BK309.out j_))
 go_ret
 exact ⟨kE, by exact kB1 HB.out GE309.out⟩

/-! ### intrusionref02_number: function 123 -/
def intrusionref02_number.l0 : Nat → Int → Int → ByteArray → Int → Option (ByteArray)
 | 0, _, _, _, _ => none
 | k + 1, x0, x1, x5, x6 => if x6 < x1 then ((some (([(Int.tmod x0 256) % 256] : List Int) : List Int)).bind fun y310 => (if (strOfNums y310).size + x5.size ≤ 9223372036854775807 then (intrusionref02_number.l0 k (wrap64 (Int.tdiv x0 256)) x1 ((strOfNums y310) ++ x5) (wrap64 (x6 + 1))) else (none))) else (some x5)
def intrusionref02_number.f (k : Nat) (a0 : Int) (a1 : Int) : Option (ByteArray) := intrusionref02_number.l0 k a0 a1 (⟨#[]⟩ : ByteArray) 0
theorem intrusionref02_number.mono_l : ∀ k, (∀ y0 y1 y2 y3, LeO (intrusionref02_number.l0 k y0 y1 y2 y3) (intrusionref02_number.l0 (k + 1) y0 y1 y2 y3))
 | 0 => fun _ _ _ _ r h => by simp [intrusionref02_number.l0] at h
 | k + 1 => by
  have ih0 := intrusionref02_number.mono_l k
  intro y0 y1 y2 y3
  unfold intrusionref02_number.l0
  repeat' first | with_reducible first | apply ih0 | apply LeO.refl | apply LeO.none | refine LeO.ite ?_ ?_ | refine LeO.bind ?_ (fun _ => ?_)
theorem intrusionref02_number.mono : ∀ a0 a1 k, LeO (intrusionref02_number.f k a0 a1) (intrusionref02_number.f (k + 1) a0 a1) := by
 intro a0 a1 k
 have ih0 := intrusionref02_number.mono_l k
 unfold intrusionref02_number.f
 repeat' first | with_reducible first | apply ih0 | apply LeO.refl | apply LeO.none | refine LeO.ite ?_ ?_ | refine LeO.bind ?_ (fun _ => ?_)
set_option maxHeartbeats 8000000 in
set_option maxRecDepth 100000 in
theorem intrusionref02_number.calls (k : Nat) (a0 : Int) (a1 : Int) (r : ByteArray) (w : World) (h : intrusionref02_number.f k a0 a1 = some r) :
  Calls Tryd.prog 123 #[.int .i64 a0, .int .i64 a1] w fun e w' => e = .returned (.string r) ∧ Below w.heap.size w w' := by
 have HB := As (Below.refl w.heap.size w)
 have H : (intrusionref02_number.l0 k a0 a1 (⟨#[]⟩ : ByteArray) 0) = some r := h
 clear h
 have H' := As H
 clear H
 go_enter Tryd.func123, Tryd.ntmps123
 go_wp2
 go_loopg [0, 5, 6] k (fun kq v0 v5 v6 w' => ∃ (x0_1 : Int) (x5_1 : ByteArray) (x6_1 : Int), v0 = .int .i64 x0_1 ∧ v5 = .string x5_1 ∧ v6 = .int .i64 x6_1 ∧ Aside0 (intrusionref02_number.l0 kq x0_1 a1 x5_1 x6_1 = some r) ∧ Aside0 (kq ≤ k) ∧ Aside0 (Below w.heap.size w w'))
 case atStart => exact ⟨(a0), ((⟨#[]⟩ : ByteArray)), (0), kS, kS, kS, H', ⟨Nat.le_refl _⟩, ⟨kB HB.out⟩⟩
 clear H'
 obtain ⟨x0_1, x5_1, x6_1, rfl, rfl, rfl, HA, HK1, HB⟩ := hrel
 cases gk with
 | zero => exact absurd HA.out (by simp [intrusionref02_number.l0])
 | succ k1 =>
  have H := HA.out
  clear HA
  simp only [intrusionref02_number.l0] at H
  by_cases c3 : x6_1 < a1
  ·rw [if_pos c3] at H
   have c3b0 : decide (x6_1 < a1) = true := decide_eq_true c3
   clear c3
   obtain ⟨y310, hy310⟩ : ∃ y_ : List Int, y_ = (([(Int.tmod x0_1 256) % 256] : List Int)) := ⟨_, rfl⟩
   replace H : (if (strOfNums y310).size + x5_1.size ≤ 9223372036854775807 then (intrusionref02_number.l0 k1 (wrap64 (Int.tdiv x0_1 256)) a1 ((strOfNums y310) ++ x5_1) (wrap64 (x6_1 + 1))) else (none)) = some r := by first | (rw [hy310]; with_reducible exact H) | (have H2_ := (Option.bind_some _ _).symm.trans H; rw [hy310]; with_reducible exact H2_) | (have H2_ := (Option.bind_some _ _).symm.trans H; with_reducible exact H2_) | with_reducible exact H | (rw [hy310]; exact H) | exact H
   have Ny310 := As hy310
   clear hy310
   by_cases c4 : (strOfNums y310).size + x5_1.size ≤ 9223372036854775807
   ·rw [if_pos c4] at H
    have c4b0 := eq_true c4
    have c4b1 : decide ((strOfNums y310).size + x5_1.size ≤ 9223372036854775807) = true := decide_eq_true c4
    try have c4b2 : (9223372036854775807 < (strOfNums y310).size + x5_1.size) = False := eq_false (Nat.not_lt.2 c4)
    have H' := As H
    clear H
    go_wp2_with (first | ((with_reducible refine gate_dst (N := 15) rfl ?_); refine Kd.R_lit (Kd.int .u8) _ 5 rfl (N := 15) rfl (xs := ([(Int.tmod x0_1 256) % 256] : List Int)) (inner := [.int .u8 ((Int.tmod x0_1 256) % 256)]) (ok := fun _ => True) (okp := fun _ => True) kG ?hp (fun _ hk => hk) trivial (Below.refl _ _) (Nat.le_refl _) (by simp) ?_; (case hp => exact (Reps.one (show Kd.M (Kd.int .u8) _ _ _ ((Int.tmod x0_1 256) % 256) [.int .u8 ((Int.tmod x0_1 256) % 256)] from rfl) (Reps.none _ _))); intro v311 w5 ho6 hb hg_ hnew_; clear hg_ hnew_; (first | rw [← Ny310.out] at ho6 | (simp only [Int.reduceToNat] at ho6; rw [← Ny310.out] at ho6)); have HO312 := As (Kd.R_lower ho6 (below_size (kB HB.out))); replace HB := As (below_step (kB HB.out) hb); clear hb ho6; have hcv7 := own_string (P := Tryd.prog) Tryd.underlying47 Tryd.underlying5 Tryd.underlying9 (Kd.own_of_R HO312.out)))
    go_roundg k1
    case measure => have := HK1.out; omega
    case rel => exact ⟨(wrap64 (Int.tdiv x0_1 256)), ((strOfNums y310) ++ x5_1), (wrap64 (x6_1 + 1)), kS, kS, kS, H', ⟨by have := HK1.out; omega⟩, ⟨kB HB.out⟩⟩
   rw [if_neg c4] at H
   exact absurd H (by simp)
  rw [if_neg c3] at H
  have c3b0 : decide (x6_1 < a1) = false := decide_eq_false c3
  clear c3
  obtain rfl := Option.some.inj H
  go_wp2
  go_ret
  exact ⟨kE, by exact kB HB.out⟩

/-! ### intrusionref02_half: function 125 -/
def intrusionref02_half.f (k : Nat) (a0 : Int) : Option (ByteArray) := (intrusionref02_number.f k (wrap64 (a0 / 4294967296)) 4).bind fun t313 => ((intrusionref02_number.f k (wrap64 (Int.tmod a0 4294967296)) 4).bind fun t314 => (if t313.size + t314.size ≤ 9223372036854775807 then (some (t313 ++ t314)) else (none)))
theorem intrusionref02_half.mono : ∀ a0 k, LeO (intrusionref02_half.f k a0) (intrusionref02_half.f (k + 1) a0) := by
 intro a0 k
 unfold intrusionref02_half.f
 repeat' first | with_reducible first | apply intrusionref02_number.mono | apply LeO.refl | apply LeO.none | refine LeO.ite ?_ ?_ | refine LeO.bind ?_ (fun _ => ?_)
set_option maxHeartbeats 8000000 in
set_option maxRecDepth 100000 in
theorem intrusionref02_half.calls (k : Nat) (a0 : Int) (r : ByteArray) (w : World) (h : intrusionref02_half.f k a0 = some r) :
  Calls Tryd.prog 125 #[.int .u64 a0] w fun e w' => e = .returned (.string r) ∧ Below w.heap.size w w' := by
 have HB := As (Below.refl w.heap.size w)
 have H : ((intrusionref02_number.f k (wrap64 (a0 / 4294967296)) 4).bind fun t313 => ((intrusionref02_number.f k (wrap64 (Int.tmod a0 4294967296)) 4).bind fun t314 => (if t313.size + t314.size ≤ 9223372036854775807 then (some (t313 ++ t314)) else (none)))) = some r := h
 clear h
 replace H := Option.bind_eq_some_iff.mp H
 obtain ⟨t313, A20, H⟩ := H
 replace H : ((intrusionref02_number.f k (wrap64 (Int.tmod a0 4294967296)) 4).bind fun t314 => (if t313.size + t314.size ≤ 9223372036854775807 then (some (t313 ++ t314)) else (none))) = some r := H
 have A2 := As A20
 clear A20
 replace H := Option.bind_eq_some_iff.mp H
 obtain ⟨t314, A30, H⟩ := H
 replace H : (if t313.size + t314.size ≤ 9223372036854775807 then (some (t313 ++ t314)) else (none)) = some r := H
 have A3 := As A30
 clear A30
 by_cases c4 : t313.size + t314.size ≤ 9223372036854775807
 ·rw [if_pos c4] at H
  have c4b0 := eq_true c4
  have c4b1 : decide (t313.size + t314.size ≤ 9223372036854775807) = true := decide_eq_true c4
  try have c4b2 : (9223372036854775807 < t313.size + t314.size) = False := eq_false (Nat.not_lt.2 c4)
  obtain rfl := Option.some.inj H
  go_enter Tryd.func125, Tryd.ntmps125
  go_wp2_with (first | ((with_reducible refine gate_callee (f := 123) rfl ?_); refine goesL_ (some 6) rfl rfl Tryd.func123 (by kernel_rfl) rfl #[.int .i64 (wrap64 (a0 / 4294967296)), .int .i64 4] rfl kA ?_; (with_reducible refine (intrusionref02_number.calls k (wrap64 (a0 / 4294967296)) 4 t313 _ A2.out).mono ?_); rintro e w5 ⟨rfl, hb⟩; refine ⟨_, rfl, ?_⟩; replace HB := As (below_step (kB HB.out) hb); (try clear hb)) | ((with_reducible refine gate_callee (f := 123) rfl ?_); refine goesL_ (some 10) rfl rfl Tryd.func123 (by kernel_rfl) rfl #[.int .i64 (wrap64 (Int.tmod a0 4294967296)), .int .i64 4] rfl kA ?_; (with_reducible refine (intrusionref02_number.calls k (wrap64 (Int.tmod a0 4294967296)) 4 t314 _ A3.out).mono ?_); rintro e w6 ⟨rfl, hb⟩; refine ⟨_, rfl, ?_⟩; replace HB := As (below_step (kB HB.out) hb); (try clear hb)))
  go_ret
  exact ⟨kE, by exact kB HB.out⟩
 rw [if_neg c4] at H
 exact absurd H (by simp)

/-! ### intrusionref02_address: function 122 -/
def intrusionref02_address.f (k : Nat) (a0_0 : Bool) (a0_1 : Int) (a0_2 : Int) : Option (ByteArray) := if a0_0 = true then ((intrusionref02_half.f k a0_1).bind fun t316 => ((intrusionref02_half.f k a0_2).bind fun t317 => (if t316.size + t317.size ≤ 9223372036854775807 then (some (t316 ++ t317)) else (none)))) else ((intrusionref02_number.f k (wrap64 (a0_2)) 4).bind fun t318 => (some t318))
theorem intrusionref02_address.mono : ∀ a0 a1 a2 k, LeO (intrusionref02_address.f k a0 a1 a2) (intrusionref02_address.f (k + 1) a0 a1 a2) := by
 intro a0 a1 a2 k
 unfold intrusionref02_address.f
 repeat' first | with_reducible first | apply intrusionref02_half.mono | apply intrusionref02_number.mono | apply LeO.refl | apply LeO.none | refine LeO.ite ?_ ?_ | refine LeO.bind ?_ (fun _ => ?_)
def intrusionref02_address.T2 : Bool × List (List Nat × List Nat) := (true, [([], []), ([0], [0]), ([1], [1]), ([], []), ([3], [3]), ([4, 2], [4]), ([2, 5], [2, 5]), ([6, 5, 0, 1, 2, 3, 4, 5, 6], [6])])
def intrusionref02_address.B2 : List Nat := [0, 1, 3, 0, 8, 31, 63, 127]
theorem intrusionref02_address.tab2 : rtab .any (opsOf Tryd.f122 2) = intrusionref02_address.T2 := by kernel_rfl
theorem intrusionref02_address.bits2 : waitsOk intrusionref02_address.T2.2 intrusionref02_address.B2 = true := by kernel_rfl
set_option maxHeartbeats 8000000 in
set_option maxRecDepth 100000 in
theorem intrusionref02_address.calls (k : Nat) (a0_0 : Bool) (a0_1 : Int) (a0_2 : Int) (r : ByteArray) (w : World) (h : intrusionref02_address.f k a0_0 a0_1 a0_2 = some r) :
  Calls Tryd.prog 122 #[.agg #[.bool a0_0, .int .u64 a0_1, .int .u64 a0_2]] w fun e w' => e = .returned (.string r) ∧ Below w.heap.size w w' := by
 have hu24 := Tryd.underlying24
 have HB := As (Below.refl w.heap.size w)
 have H : (if a0_0 = true then ((intrusionref02_half.f k a0_1).bind fun t316 => ((intrusionref02_half.f k a0_2).bind fun t317 => (if t316.size + t317.size ≤ 9223372036854775807 then (some (t316 ++ t317)) else (none)))) else ((intrusionref02_number.f k (wrap64 (a0_2)) 4).bind fun t318 => (some t318))) = some r := h
 clear h
 by_cases c2 : a0_0 = true
 ·subst c2
  have H1 : ((intrusionref02_half.f k a0_1).bind fun t316 => ((intrusionref02_half.f k a0_2).bind fun t317 => (if t316.size + t317.size ≤ 9223372036854775807 then (some (t316 ++ t317)) else (none)))) = some r := by rw [if_pos rfl] at H; exact H
  clear H
  have H := H1
  clear H1
  replace H := Option.bind_eq_some_iff.mp H
  obtain ⟨t316, A30, H⟩ := H
  replace H : ((intrusionref02_half.f k a0_2).bind fun t317 => (if t316.size + t317.size ≤ 9223372036854775807 then (some (t316 ++ t317)) else (none))) = some r := H
  have A3 := As A30
  clear A30
  replace H := Option.bind_eq_some_iff.mp H
  obtain ⟨t317, A40, H⟩ := H
  replace H : (if t316.size + t317.size ≤ 9223372036854775807 then (some (t316 ++ t317)) else (none)) = some r := H
  have A4 := As A40
  clear A40
  by_cases c5 : t316.size + t317.size ≤ 9223372036854775807
  ·rw [if_pos c5] at H
   have c5b0 := eq_true c5
   have c5b1 : decide (t316.size + t317.size ≤ 9223372036854775807) = true := decide_eq_true c5
   try have c5b2 : (9223372036854775807 < t316.size + t317.size) = False := eq_false (Nat.not_lt.2 c5)
   obtain rfl := Option.some.inj H
   go_enter Tryd.func122, Tryd.ntmps122
   try go_wp2_with (first | ((with_reducible refine gate_dst (N := 1) rfl ?_); refine box_event rfl (N := 1) rfl (cs := #[.bool true, .int .u64 a0_1, .int .u64 a0_2]) (t := 24) kG ?_; intro gb315 hg w6 hbox hb; have BK315 := As (hbox); have GW315 := As ((by rw [hg]; exact (below_size (kB HB.out)) : w.heap.size ≤ gb315)); have GE315 := As ((by rw [hg]; exact (below_size (kB HB.out)) : w.heap.size ≤ gb315)); replace HB := As (below_step (kB HB.out) hb); clear hb hbox hg; have hcz7_0 := cells_3 BK315.out; have hfz7_0 := fun j_ => blk_frozen BK315.out j_))
   replace BK315 := As (blk_drew BK315.out)
   replace HB := As (below_drew1 HB.out)
   refine start_ (n := 8) (S := fun w' => w'.cell? ⟨gb315, 0, none⟩ = some (.bool true) ∧ w'.cell? ⟨gb315, 1, none⟩ = some (.int .u64 a0_1) ∧ w'.cell? ⟨gb315, 2, none⟩ = some (.int .u64 a0_2)) (ds := []) #[O, O, O, O, O, O, O, O] (by kernel_rfl) rfl rfl ⟨kC BK315.out 0, kC BK315.out 1, kC BK315.out 2⟩ (fun hHeld => ?_); refine with_tabW intrusionref02_address.tab2 intrusionref02_address.bits2 (fun HT_ HW_ => ?_)
   generalize w6.drew = w8 at BK315 HB hHeld ⊢
   refine kP 0 5 #[I, O, O, O, O, O, O, O] ?_ (any_of HT_.out (by kernel_rfl))
   refine kP 3 8 #[I, O, O, I, O, O, O, O] ?_ (any_of HT_.out (by kernel_rfl))
   refine take_ (i := 1) (N := some 6) (v := ?_) (a' := ?_) #[I, I, O, I, O, O, O, O] rfl rfl (take_ofW HT_.out HW_.out (by kernel_rfl)) (fun _ _ _ h => h) (Or.inl ⟨by rfl, ?_⟩) hHeld ?_ ?_
   rotate_left
   ·rintro w' ⟨s0, s1, s2⟩
    go_simp
    with_reducible rfl
   rotate_left
   ·simp only [Act.put, sA, sZ, sS, i64_w, i32_w]
    rfl
   refine take_ (i := 4) (N := some 9) (v := ?_) (a' := ?_) #[I, I, O, I, I, O, O, O] rfl rfl (take_ofW HT_.out HW_.out (by kernel_rfl)) (fun _ _ _ h => h) (Or.inl ⟨by rfl, ?_⟩) hHeld ?_ ?_
   rotate_left
   ·rintro w' ⟨s0, s1, s2⟩
    go_simp
    with_reducible rfl
   rotate_left
   ·simp only [Act.put, sA, sZ, sS, i64_w, i32_w]
    rfl
   refine one_ (i := 2) (N := some 7) #[I, I, I, I, I, O, O, O] rfl rfl (one_of HT_.out (by kernel_rfl)) (by decide) (fun K hK => ?_)
   refine goes_ Tryd.func125 (by kernel_rfl) rfl #[.int .u64 a0_1] (by rfl) rfl rfl kA ?_
   with_reducible refine (intrusionref02_half.calls k a0_1 t316 _ A3.out).mono ?_
   rintro e w9 ⟨rfl, hb⟩
   refine ⟨_, rfl, ?_⟩
   replace BK315 := As (blk_below (kb BK315.out) hb)
   replace HB := As (below_step (kB1 HB.out GE315.out) hb)
   (try clear hb)
   (try clear hb2)
   (try clear hk)
   (try clear hi)
   refine hK.out _ _ ⟨kC BK315.out 0, kC BK315.out 1, kC BK315.out 2⟩ (fun hHeld => ?_)
   clear hK K
   refine norm_ (a' := ?_) ?_ ?_
   rotate_left
   ·show Act.put _ (some 7) _ = _
    simp only [Act.put, sA, sZ, sS, i64_w, i32_w]
    rfl
   refine one_ (i := 5) (N := some 10) #[I, I, I, I, I, I, O, O] rfl rfl (one_of HT_.out (by kernel_rfl)) (by decide) (fun K hK => ?_)
   refine goes_ Tryd.func125 (by kernel_rfl) rfl #[.int .u64 a0_2] (by rfl) rfl rfl kA ?_
   with_reducible refine (intrusionref02_half.calls k a0_2 t317 _ A4.out).mono ?_
   rintro e w10 ⟨rfl, hb⟩
   refine ⟨_, rfl, ?_⟩
   replace BK315 := As (blk_below (kb BK315.out) hb)
   replace HB := As (below_step (kB1 HB.out GE315.out) hb)
   (try clear hb)
   (try clear hb2)
   (try clear hk)
   (try clear hi)
   refine hK.out _ _ ⟨kC BK315.out 0, kC BK315.out 1, kC BK315.out 2⟩ (fun hHeld => ?_)
   clear hK K
   refine norm_ (a' := ?_) ?_ ?_
   rotate_left
   ·show Act.put _ (some 10) _ = _
    simp only [Act.put, sA, sZ, sS, i64_w, i32_w]
    rfl
   refine kP 6 11 #[I, I, I, I, I, I, I, O] ?_ (any_of HT_.out (by kernel_rfl))
   refine kP 7 2 #[I, I, I, I, I, I, I, I] ?_ (any_of HT_.out (by kernel_rfl))
   refine done_ (done_of HT_.out (by kernel_rfl)) ?_
   try go_wp2
   go_ret
   exact ⟨kE, by exact kB1 HB.out GE315.out⟩
  rw [if_neg c5] at H
  exact absurd H (by simp)
 replace c2 := Bool.eq_false_iff.mpr c2
 subst c2
 have H1 : ((intrusionref02_number.f k (wrap64 (a0_2)) 4).bind fun t318 => (some t318)) = some r := by rw [if_neg (show ¬ (false = true) by decide)] at H; exact H
 clear H
 have H := H1
 clear H1
 replace H := Option.bind_eq_some_iff.mp H
 obtain ⟨t318, A110, H⟩ := H
 replace H : (some t318) = some r := H
 have A11 := As A110
 clear A110
 obtain rfl := Option.some.inj H
 go_enter Tryd.func122, Tryd.ntmps122
 go_wp2_with (first | ((with_reducible refine gate_dst (N := 1) rfl ?_); refine box_event rfl (N := 1) rfl (cs := #[.bool false, .int .u64 a0_1, .int .u64 a0_2]) (t := 24) kG ?_; intro gb315 hg w12 hbox hb; have BK315 := As (hbox); have GW315 := As ((by rw [hg]; exact (below_size (kB HB.out)) : w.heap.size ≤ gb315)); have GE315 := As ((by rw [hg]; exact (below_size (kB HB.out)) : w.heap.size ≤ gb315)); replace HB := As (below_step (kB HB.out) hb); clear hb hbox hg; have hcz13_0 := cells_3 BK315.out; have hfz13_0 := fun j_ => blk_frozen BK315.out j_) | ((with_reducible refine gate_callee (f := 123) rfl ?_); refine goesL_ (some 15) rfl rfl Tryd.func123 (by kernel_rfl) rfl #[.int .i64 (wrap64 (a0_2)), .int .i64 4] rfl kA ?_; (with_reducible refine (intrusionref02_number.calls k (wrap64 (a0_2)) 4 t318 _ A11.out).mono ?_); rintro e w14 ⟨rfl, hb⟩; refine ⟨_, rfl, ?_⟩; replace BK315 := As (blk_below (kb BK315.out) hb); replace HB := As (below_step (kB1 HB.out GE315.out) hb); (try clear hb)))
 go_ret
 exact ⟨kE, by exact kB1 HB.out GE315.out⟩

end Go.Proofs.YtocobalkikkhlaaDoor.X
-- short
