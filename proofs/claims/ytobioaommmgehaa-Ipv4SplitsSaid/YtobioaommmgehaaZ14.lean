/- Functions and their walks, printed by xprint.py. -/
import Derived.Test.YtobioaommmgehaaZ0
namespace Go.Proofs.Ytobioaommmgehaa.Z
open Go.RowKit Go.Proofs.YtobioaommmgehaaW.PrintWords Go.Proofs.YtobioaommmgehaaW.PrintLast Go.Proofs.YtobioaommmgehaaW.PrintMore
attribute [local go_sem] max2_int min2_int max_two min_two max_three min_three max_four min_four   -- for this text's walks alone
set_option linter.unusedVariables false
set_option linter.unusedSimpArgs false

/-! ### intrusionref02_Add: function 58 -/
def intrusionref02_Add.f (a0 : Int) (a1 : Int) : Option (Int) := if (wrap64 ((Go.bits .and .i64 a0 65535) + (Go.bits .and .i64 a1 65535))) > 65535 then (some (wrap64 ((wrap64 ((Go.bits .and .i64 a0 65535) + (Go.bits .and .i64 a1 65535))) - 65535))) else (some (wrap64 ((Go.bits .and .i64 a0 65535) + (Go.bits .and .i64 a1 65535))))
set_option maxHeartbeats 8000000 in
set_option maxRecDepth 100000 in
theorem intrusionref02_Add.calls (a0 : Int) (a1 : Int) (r : Int) (w : World) (h : intrusionref02_Add.f a0 a1 = some r) :
  Calls Try.prog 58 #[.int .i64 a0, .int .i64 a1] w fun e w' => e = .returned (.int .i64 r) ∧ Drawn0 w w' := by
 have H : (if (wrap64 ((Go.bits .and .i64 a0 65535) + (Go.bits .and .i64 a1 65535))) > 65535 then (some (wrap64 ((wrap64 ((Go.bits .and .i64 a0 65535) + (Go.bits .and .i64 a1 65535))) - 65535))) else (some (wrap64 ((Go.bits .and .i64 a0 65535) + (Go.bits .and .i64 a1 65535))))) = some r := h
 clear h
 by_cases c3 : (wrap64 ((Go.bits .and .i64 a0 65535) + (Go.bits .and .i64 a1 65535))) > 65535
 ·rw [if_pos c3] at H
  have c3b0 : decide (65535 < (wrap64 ((Go.bits .and .i64 a0 65535) + (Go.bits .and .i64 a1 65535)))) = true := decide_eq_true c3
  clear c3
  obtain rfl := Option.some.inj H
  go_enter Try.func58, Try.ntmps58
  go_wp2
  go_ret
  exact ⟨by first | rfl | (simp; done) | (simp [*]; done), by repeat (first | exact Drawn0.refl _ | apply Drawn0.step)⟩
 rw [if_neg c3] at H
 have c3b0 : decide (65535 < (wrap64 ((Go.bits .and .i64 a0 65535) + (Go.bits .and .i64 a1 65535)))) = false := decide_eq_false c3
 clear c3
 obtain rfl := Option.some.inj H
 go_enter Try.func58, Try.ntmps58
 go_wp2
 go_ret
 exact ⟨by first | rfl | (simp; done) | (simp [*]; done), by repeat (first | exact Drawn0.refl _ | apply Drawn0.step)⟩

/-! ### intrusionref02_Sum: function 31 -/
def intrusionref02_Sum.l0 : Nat → ByteArray → Int → Int → Option (Int)
 | 0, _, _, _ => none
 | k + 1, x0, x3, x4 => if x4 < (x0.size : Int) then (if 0 ≤ x4 then (if (wrap64 (x4 + 1)) < (x0.size : Int) then (if 0 ≤ (wrap64 (x4 + 1)) then ((intrusionref02_Add.f x3 (wrap64 ((wrap64 ((wrap64 (bt x0 x4)) * 256)) + (wrap64 (bt x0 (wrap64 (x4 + 1))))))).bind fun t382 => (intrusionref02_Sum.l0 k x0 t382 (wrap64 (x4 + 2)))) else (none)) else ((intrusionref02_Add.f x3 (wrap64 ((wrap64 (bt x0 x4)) * 256))).bind fun t383 => (intrusionref02_Sum.l0 k x0 t383 (wrap64 (x4 + 2))))) else (none)) else (some (wrap64 (65535 - x3)))
def intrusionref02_Sum.f (k : Nat) (a0 : ByteArray) : Option (Int) := intrusionref02_Sum.l0 k a0 0 0
theorem intrusionref02_Sum.mono_l : ∀ k, (∀ y0 y1 y2, LeO (intrusionref02_Sum.l0 k y0 y1 y2) (intrusionref02_Sum.l0 (k + 1) y0 y1 y2))
 | 0 => fun _ _ _ r h => by simp [intrusionref02_Sum.l0] at h
 | k + 1 => by
  have ih0 := intrusionref02_Sum.mono_l k
  intro y0 y1 y2
  unfold intrusionref02_Sum.l0
  repeat' first | with_reducible first | apply ih0 | apply LeO.refl | apply LeO.none | refine LeO.ite ?_ ?_ | refine LeO.bind ?_ (fun _ => ?_)
theorem intrusionref02_Sum.mono : ∀ a0 k, LeO (intrusionref02_Sum.f k a0) (intrusionref02_Sum.f (k + 1) a0) := by
 intro a0 k
 have ih0 := intrusionref02_Sum.mono_l k
 unfold intrusionref02_Sum.f
 repeat' first | with_reducible first | apply ih0 | apply LeO.refl | apply LeO.none | refine LeO.ite ?_ ?_ | refine LeO.bind ?_ (fun _ => ?_)
set_option maxHeartbeats 8000000 in
set_option maxRecDepth 100000 in
theorem intrusionref02_Sum.calls (k : Nat) (a0 : ByteArray) (r : Int) (w : World) (h : intrusionref02_Sum.f k a0 = some r) :
  Calls Try.prog 31 #[.string a0] w fun e w' => e = .returned (.int .i64 r) ∧ Drawn0 w w' := by
 have H : (intrusionref02_Sum.l0 k a0 0 0) = some r := h
 clear h
 have H' := As H
 clear H
 go_enter Try.func31, Try.ntmps31
 go_wp2
 go_loopg [3, 4] k (fun kq v3 v4 w' => ∃ (x3_1 : Int) (x4_1 : Int), v3 = .int .i64 x3_1 ∧ v4 = .int .i64 x4_1 ∧ Aside0 (intrusionref02_Sum.l0 kq a0 x3_1 x4_1 = some r) ∧ Aside0 (kq ≤ k) ∧ Drawn0 w w')
 case atStart => exact ⟨(0), (0), kS, kS, H', ⟨Nat.le_refl _⟩, by repeat (first | exact Drawn0.refl _ | apply Drawn0.step)⟩
 clear H'
 obtain ⟨x3_1, x4_1, rfl, rfl, HA, HK1, ⟨m1, rfl⟩⟩ := hrel
 cases gk with
 | zero => exact absurd HA.out (by simp [intrusionref02_Sum.l0])
 | succ k1 =>
  have H := HA.out
  clear HA
  simp only [intrusionref02_Sum.l0] at H
  by_cases c2 : x4_1 < (a0.size : Int)
  ·rw [if_pos c2] at H
   have c2b0 : decide (x4_1 < (a0.size : Int)) = true := decide_eq_true c2
   clear c2
   replace H := iS H
   obtain ⟨c3, H⟩ := H
   have c3b0 := decide_eq_true c3
   clear c3
   by_cases c5 : (wrap64 (x4_1 + 1)) < (a0.size : Int)
   ·rw [if_pos c5] at H
    have c5b0 : decide ((wrap64 (x4_1 + 1)) < (a0.size : Int)) = true := decide_eq_true c5
    clear c5
    obtain ⟨ji6, hji6⟩ : ∃ j_ : Int, (wrap64 (x4_1 + 1)) = j_ := ⟨_, rfl⟩
    replace H : (if 0 ≤ (ji6) then ((intrusionref02_Add.f x3_1 (wrap64 ((wrap64 ((wrap64 (bt a0 x4_1)) * 256)) + (wrap64 (bt a0 (ji6)))))).bind fun t382 => (intrusionref02_Sum.l0 k1 a0 t382 (wrap64 (x4_1 + 2)))) else (none)) = some r := by first | (rw [hji6] at H; exact H) | (simp only [hji6] at H ⊢; exact H)
    (try rw [hji6] at c5b0)
    have hji6w : (IntKind.i64.wrap (x4_1 + 1)) = ji6 := (i64_w _).trans hji6
    replace H := iS H
    obtain ⟨c7, H⟩ := H
    have c7b0 := decide_eq_true c7
    clear c7
    replace H := bS H
    obtain ⟨t382, A9, H⟩ := H
    have H' := As H
    clear H
    have p4 : 0 ≤ (x4_1 : Int) := of_decide_eq_true (by first | (with_reducible assumption) | assumption)
    have q4 : x4_1 < (a0.size : Int) := of_decide_eq_true (by first | (with_reducible assumption) | assumption)
    have hx4 := bt_at a0 x4_1
    replace p4 := eq_true p4
    replace q4 := eq_true q4
    have p8 : 0 ≤ ((ji6) : Int) := of_decide_eq_true (by first | (with_reducible assumption) | assumption)
    have q8 : (ji6) < (a0.size : Int) := of_decide_eq_true (by first | (with_reducible assumption) | assumption)
    have hx8 := bt_at a0 (ji6)
    replace p8 := eq_true p8
    replace q8 := eq_true q8
    go_wp2_with (first | ((with_reducible refine gate_callee (f := 58) rfl ?_); refine goesL_ (some 31) rfl rfl Try.func58 (by kernel_rfl) rfl #[.int .i64 x3_1, .int .i64 (wrap64 ((wrap64 ((wrap64 (bt a0 x4_1)) * 256)) + (wrap64 (bt a0 (ji6)))))] rfl (by (try simp only [List.map_toArray, List.map_cons, List.map_nil]); first | done | (simp only [hji6]; rfl) | rfl | (simp only [List.length_drop, List.length_take]; rfl)) ?_; (with_reducible refine (intrusionref02_Add.calls x3_1 (wrap64 ((wrap64 ((wrap64 (bt a0 x4_1)) * 256)) + (wrap64 (bt a0 (ji6))))) t382 _ A9.out).mono ?_); rintro e w' ⟨rfl, ⟨nd, rfl⟩⟩; refine ⟨_, rfl, ?_⟩))
    go_roundg k1
    case measure => have := HK1.out; omega
    case rel => exact ⟨(t382), (wrap64 (x4_1 + 2)), kS, kS, H', ⟨by have := HK1.out; omega⟩, by repeat (first | exact Drawn0.refl _ | apply Drawn0.step)⟩
   rw [if_neg c5] at H
   have c5b0 : decide ((wrap64 (x4_1 + 1)) < (a0.size : Int)) = false := decide_eq_false c5
   clear c5
   replace H := bS H
   obtain ⟨t383, A10, H⟩ := H
   have H' := As H
   clear H
   have p4 : 0 ≤ (x4_1 : Int) := of_decide_eq_true (by first | (with_reducible assumption) | assumption)
   have q4 : x4_1 < (a0.size : Int) := of_decide_eq_true (by first | (with_reducible assumption) | assumption)
   have hx4 := bt_at a0 x4_1
   replace p4 := eq_true p4
   replace q4 := eq_true q4
   go_wp2_with (first | ((with_reducible refine gate_callee (f := 58) rfl ?_); refine goesL_ (some 31) rfl rfl Try.func58 (by kernel_rfl) rfl #[.int .i64 x3_1, .int .i64 (wrap64 ((wrap64 (bt a0 x4_1)) * 256))] rfl kA ?_; (with_reducible refine (intrusionref02_Add.calls x3_1 (wrap64 ((wrap64 (bt a0 x4_1)) * 256)) t383 _ A10.out).mono ?_); rintro e w' ⟨rfl, ⟨nd, rfl⟩⟩; refine ⟨_, rfl, ?_⟩))
   go_roundg k1
   case measure => have := HK1.out; omega
   case rel => exact ⟨(t383), (wrap64 (x4_1 + 2)), kS, kS, H', ⟨by have := HK1.out; omega⟩, by repeat (first | exact Drawn0.refl _ | apply Drawn0.step)⟩
  rw [if_neg c2] at H
  have c2b0 : decide (x4_1 < (a0.size : Int)) = false := decide_eq_false c2
  clear c2
  obtain rfl := Option.some.inj H
  go_wp2
  go_ret
  exact ⟨by first | rfl | (simp; done) | (simp [*]; done), by repeat (first | exact Drawn0.refl _ | apply Drawn0.step)⟩

/-! ### intrusionref11_byteSized: function 39 -/
def intrusionref11_byteSized.f (a0 : Int) : Option (Bool) := if a0 ≥ 0 then (some (decide (a0 ≤ 255))) else (some false)
set_option maxHeartbeats 8000000 in
set_option maxRecDepth 100000 in
theorem intrusionref11_byteSized.calls (a0 : Int) (r : Bool) (w : World) (h : intrusionref11_byteSized.f a0 = some r) :
  Calls Try.prog 39 #[.int .i64 a0] w fun e w' => e = .returned (.bool r) ∧ Drawn0 w w' := by
 have H : (if a0 ≥ 0 then (some (decide (a0 ≤ 255))) else (some false)) = some r := h
 clear h
 by_cases c2 : a0 ≥ 0
 ·rw [if_pos c2] at H
  have c2b0 : decide (0 ≤ a0) = true := decide_eq_true c2
  clear c2
  obtain rfl := Option.some.inj H
  go_enter Try.func39, Try.ntmps39
  go_wp2
  go_ret
  exact ⟨by first | rfl | (simp; done) | (simp [*]; done), by repeat (first | exact Drawn0.refl _ | apply Drawn0.step)⟩
 rw [if_neg c2] at H
 have c2b0 : decide (0 ≤ a0) = false := decide_eq_false c2
 clear c2
 obtain rfl := Option.some.inj H
 go_enter Try.func39, Try.ntmps39
 go_wp2
 go_ret
 exact ⟨by first | rfl | (simp; done) | (simp [*]; done), by repeat (first | exact Drawn0.refl _ | apply Drawn0.step)⟩

/-! ### intrusionref06_Valid: function 67 -/
def intrusionref06_Valid.f (a0_0 : Bool) (a0_1 : Int) (a0_2 : Int) : Option (Bool) := if a0_0 = true then (some true) else (if a0_1 = 0 then (some (decide (a0_2 < 4294967296))) else (some false))
set_option maxHeartbeats 8000000 in
set_option maxRecDepth 100000 in
theorem intrusionref06_Valid.calls (a0_0 : Bool) (a0_1 : Int) (a0_2 : Int) (r : Bool) (w : World) (h : intrusionref06_Valid.f a0_0 a0_1 a0_2 = some r) :
  Calls Try.prog 67 #[.agg #[.bool a0_0, .int .u64 a0_1, .int .u64 a0_2]] w fun e w' => e = .returned (.bool r) ∧ Below w.heap.size w w' := by
 have hu25 := Try.underlying25
 have HB := As (Below.refl w.heap.size w)
 have H : (if a0_0 = true then (some true) else (if a0_1 = 0 then (some (decide (a0_2 < 4294967296))) else (some false))) = some r := h
 clear h
 by_cases c2 : a0_0 = true
 ·subst c2
  rw [if_pos rfl] at H
  obtain rfl := Option.some.inj H
  go_enter Try.func67, Try.ntmps67
  go_wp2_with (first | ((with_reducible refine gate_dst (N := 1) rfl ?_); refine box_event rfl (N := 1) rfl (cs := #[.bool true, .int .u64 a0_1, .int .u64 a0_2]) (t := 25) kG ?_; intro gb384 hg w3 hbox hb; have BK384 := As (hbox); have GW384 := As (gS hg (below_size (kB HB.out))); have GE384 := As (gS hg (below_size (kB HB.out))); replace HB := As (below_step (kB HB.out) hb); clear hb hbox hg; have hcz4_0 := cells_3 BK384.out; have hfz4_0 := fun j_ => blk_frozen BK384.out j_))
  go_ret
  exact ⟨kE, by exact kB1 HB.out GE384.out⟩
 replace c2 := Bool.eq_false_iff.mpr c2
 subst c2
 rw [if_neg (show ¬ (false = true) by decide)] at H
 by_cases c5 : a0_1 = 0
 ·rw [if_pos c5] at H
  have c5b0 : (a0_1 == 0) = true := beq_iff_eq.mpr c5
  have c5b1 : (a0_1 != 0) = false := bne_eq_false_iff_eq.mpr c5
  clear c5
  obtain rfl := Option.some.inj H
  go_enter Try.func67, Try.ntmps67
  go_wp2_with (first | ((with_reducible refine gate_dst (N := 1) rfl ?_); refine box_event rfl (N := 1) rfl (cs := #[.bool false, .int .u64 a0_1, .int .u64 a0_2]) (t := 25) kG ?_; intro gb384 hg w6 hbox hb; have BK384 := As (hbox); have GW384 := As (gS hg (below_size (kB HB.out))); have GE384 := As (gS hg (below_size (kB HB.out))); replace HB := As (below_step (kB HB.out) hb); clear hb hbox hg; have hcz7_0 := cells_3 BK384.out; have hfz7_0 := fun j_ => blk_frozen BK384.out j_))
  go_ret
  exact ⟨kE, by exact kB1 HB.out GE384.out⟩
 rw [if_neg c5] at H
 have c5b0 : (a0_1 == 0) = false := beq_eq_false_iff_ne.mpr c5
 have c5b1 : (a0_1 != 0) = true := bne_iff_ne.mpr c5
 obtain rfl := Option.some.inj H
 go_enter Try.func67, Try.ntmps67
 go_wp2_with (first | ((with_reducible refine gate_dst (N := 1) rfl ?_); refine box_event rfl (N := 1) rfl (cs := #[.bool false, .int .u64 a0_1, .int .u64 a0_2]) (t := 25) kG ?_; intro gb384 hg w8 hbox hb; have BK384 := As (hbox); have GW384 := As (gS hg (below_size (kB HB.out))); have GE384 := As (gS hg (below_size (kB HB.out))); replace HB := As (below_step (kB HB.out) hb); clear hb hbox hg; have hcz9_0 := cells_3 BK384.out; have hfz9_0 := fun j_ => blk_frozen BK384.out j_))
 go_ret
 exact ⟨kE, by exact kB1 HB.out GE384.out⟩

/-! ### intrusionref11_address: function 40 -/
def intrusionref11_address.f (a0_0 : Bool) (a0_1 : Int) (a0_2 : Int) : Option (Bool) := (intrusionref06_Valid.f a0_0 a0_1 a0_2).bind fun t386 => (if t386 = true then (some (!a0_0)) else (some false))
set_option maxHeartbeats 8000000 in
set_option maxRecDepth 100000 in
theorem intrusionref11_address.calls (a0_0 : Bool) (a0_1 : Int) (a0_2 : Int) (r : Bool) (w : World) (h : intrusionref11_address.f a0_0 a0_1 a0_2 = some r) :
  Calls Try.prog 40 #[.agg #[.bool a0_0, .int .u64 a0_1, .int .u64 a0_2]] w fun e w' => e = .returned (.bool r) ∧ Below w.heap.size w w' := by
 have hu25 := Try.underlying25
 have HB := As (Below.refl w.heap.size w)
 have H : ((intrusionref06_Valid.f a0_0 a0_1 a0_2).bind fun t386 => (if t386 = true then (some (!a0_0)) else (some false))) = some r := h
 clear h
 replace H := bS H
 obtain ⟨t386, A2, H⟩ := H
 by_cases c3 : t386 = true
 ·subst c3
  rw [if_pos rfl] at H
  obtain rfl := Option.some.inj H
  go_enter Try.func40, Try.ntmps40
  go_wp2_with (first | ((with_reducible refine gate_dst (N := 1) rfl ?_); refine box_event rfl (N := 1) rfl (cs := #[.bool a0_0, .int .u64 a0_1, .int .u64 a0_2]) (t := 25) kG ?_; intro gb385 hg w4 hbox hb; have BK385 := As (hbox); have GW385 := As (gS hg (below_size (kB HB.out))); have GE385 := As (gS hg (below_size (kB HB.out))); replace HB := As (below_step (kB HB.out) hb); clear hb hbox hg; have hcz5_0 := cells_3 BK385.out; have hfz5_0 := fun j_ => blk_frozen BK385.out j_) | ((with_reducible refine gate_callee (f := 67) rfl ?_); refine goesL_ (some 4) rfl rfl Try.func67 (by kernel_rfl) rfl #[.agg #[.bool a0_0, .int .u64 a0_1, .int .u64 a0_2]] rfl kA ?_; (with_reducible refine (intrusionref06_Valid.calls a0_0 a0_1 a0_2 true _ A2.out).mono ?_); rintro e w6 ⟨rfl, hb⟩; refine ⟨_, rfl, ?_⟩; replace BK385 := As (blk_below (kb BK385.out) hb); replace HB := As (below_step (kB1 HB.out GE385.out) hb); (try clear hb); have hcz7_0 := cells_3 BK385.out; have hfz7_0 := fun j_ => blk_frozen BK385.out j_))
  go_ret
  exact ⟨kE, by exact kB1 HB.out GE385.out⟩
 replace c3 := Bool.eq_false_iff.mpr c3
 subst c3
 rw [if_neg (show ¬ (false = true) by decide)] at H
 obtain rfl := Option.some.inj H
 go_enter Try.func40, Try.ntmps40
 go_wp2_with (first | ((with_reducible refine gate_dst (N := 1) rfl ?_); refine box_event rfl (N := 1) rfl (cs := #[.bool a0_0, .int .u64 a0_1, .int .u64 a0_2]) (t := 25) kG ?_; intro gb385 hg w8 hbox hb; have BK385 := As (hbox); have GW385 := As (gS hg (below_size (kB HB.out))); have GE385 := As (gS hg (below_size (kB HB.out))); replace HB := As (below_step (kB HB.out) hb); clear hb hbox hg; have hcz9_0 := cells_3 BK385.out; have hfz9_0 := fun j_ => blk_frozen BK385.out j_) | ((with_reducible refine gate_callee (f := 67) rfl ?_); refine goesL_ (some 4) rfl rfl Try.func67 (by kernel_rfl) rfl #[.agg #[.bool a0_0, .int .u64 a0_1, .int .u64 a0_2]] rfl kA ?_; (with_reducible refine (intrusionref06_Valid.calls a0_0 a0_1 a0_2 false _ A2.out).mono ?_); rintro e w10 ⟨rfl, hb⟩; refine ⟨_, rfl, ?_⟩; replace BK385 := As (blk_below (kb BK385.out) hb); replace HB := As (below_step (kB1 HB.out GE385.out) hb); (try clear hb)))
 go_ret
 exact ⟨kE, by exact kB1 HB.out GE385.out⟩

/-! ### intrusionref11_Kinds: function 41 -/
def intrusionref11_Kinds.l0 : Nat → List (S50) → Int → Option (Bool)
 | 0, _, _ => none
 | k + 1, x0, x3 => if x3 < (x0.length : Int) then (if 0 ≤ x3 then (if ((rd_T50 x0 x3).f0) < 2 then (some false) else (if ((rd_T50 x0 x3).f0) > 255 then (some false) else (intrusionref11_Kinds.l0 k x0 (wrap64 (x3 + 1))))) else (none)) else (some true)
def intrusionref11_Kinds.f (k : Nat) (l0 : List (S50)) : Option (Bool) := intrusionref11_Kinds.l0 k l0 0
theorem intrusionref11_Kinds.mono_l : ∀ k, (∀ y0 y1, LeO (intrusionref11_Kinds.l0 k y0 y1) (intrusionref11_Kinds.l0 (k + 1) y0 y1))
 | 0 => fun _ _ r h => by simp [intrusionref11_Kinds.l0] at h
 | k + 1 => by
  have ih0 := intrusionref11_Kinds.mono_l k
  intro y0 y1
  unfold intrusionref11_Kinds.l0
  repeat' first | with_reducible first | apply ih0 | apply LeO.refl | apply LeO.none | refine LeO.ite ?_ ?_ | refine LeO.bind ?_ (fun _ => ?_)
theorem intrusionref11_Kinds.mono : ∀ a0 k, LeO (intrusionref11_Kinds.f k a0) (intrusionref11_Kinds.f (k + 1) a0) := by
 intro a0 k
 have ih0 := intrusionref11_Kinds.mono_l k
 unfold intrusionref11_Kinds.f
 repeat' first | with_reducible first | apply ih0 | apply LeO.refl | apply LeO.none | refine LeO.ite ?_ ?_ | refine LeO.bind ?_ (fun _ => ?_)
set_option maxHeartbeats 8000000 in
set_option maxRecDepth 100000 in
theorem intrusionref11_Kinds.calls (k : Nat) (A0 : Option Addr) (c0 : Nat) (l0 : List (S50)) (r : Bool) (w : World) (hr0 : Kd.C k50 w A0 l0.length l0) (hc0 : l0.length ≤ c0) (h : intrusionref11_Kinds.f k l0 = some r) :
  Calls Try.prog 41 #[.slice A0 l0.length c0] w fun e w' => e = .returned (.bool r) ∧ Drawn0 w w' := by
 have HR0 := As hr0
 have HC0 := As hc0
 clear hr0 hc0
 have H : (intrusionref11_Kinds.l0 k l0 0) = some r := h
 clear h
 have H' := As H
 clear H
 go_enter Try.func41, Try.ntmps41
 go_wp2
 go_loopg [3] k (fun kq v3 w' => ∃ (x3_1 : Int), v3 = .int .i64 x3_1 ∧ Aside0 (intrusionref11_Kinds.l0 kq l0 x3_1 = some r) ∧ Aside0 (kq ≤ k) ∧ Drawn0 w w')
 case atStart => exact ⟨(0), kS, H', ⟨Nat.le_refl _⟩, by repeat (first | exact Drawn0.refl _ | apply Drawn0.step)⟩
 clear H'
 obtain ⟨x3_1, rfl, HA, HK1, ⟨m1, rfl⟩⟩ := hrel
 cases gk with
 | zero => exact absurd HA.out (by simp [intrusionref11_Kinds.l0])
 | succ k1 =>
  have H := HA.out
  clear HA
  simp only [intrusionref11_Kinds.l0] at H
  by_cases c2 : x3_1 < (l0.length : Int)
  ·rw [if_pos c2] at H
   have c2b0 : decide (x3_1 < (l0.length : Int)) = true := decide_eq_true c2
   clear c2
   replace H := iS H
   obtain ⟨c3, H⟩ := H
   have c3b0 := decide_eq_true c3
   clear c3
   by_cases c4 : ((rd_T50 l0 x3_1).f0) < 2
   ·rw [if_pos c4] at H
    have c4b0 : decide (((rd_T50 l0 x3_1).f0) < 2) = true := decide_eq_true c4
    clear c4
    obtain rfl := Option.some.inj H
    have p387 : 0 ≤ (x3_1 : Int) := of_decide_eq_true (by first | (with_reducible assumption) | assumption)
    have q387 : x3_1 < (l0.length : Int) := of_decide_eq_true (by first | (with_reducible assumption) | assumption)
    obtain ⟨ad387, e387, hx387_0, hx387_1⟩ := at_T50 HR0.out x3_1 p387 q387
    cases e387
    replace p387 := eq_true p387
    replace q387 := eq_true q387
    go_wp2
    go_ret
    exact ⟨by first | rfl | (simp; done) | (simp [*]; done), by repeat (first | exact Drawn0.refl _ | apply Drawn0.step)⟩
   rw [if_neg c4] at H
   have c4b0 : decide (((rd_T50 l0 x3_1).f0) < 2) = false := decide_eq_false c4
   clear c4
   by_cases c5 : ((rd_T50 l0 x3_1).f0) > 255
   ·rw [if_pos c5] at H
    have c5b0 : decide (255 < ((rd_T50 l0 x3_1).f0)) = true := decide_eq_true c5
    clear c5
    obtain rfl := Option.some.inj H
    have p387 : 0 ≤ (x3_1 : Int) := of_decide_eq_true (by first | (with_reducible assumption) | assumption)
    have q387 : x3_1 < (l0.length : Int) := of_decide_eq_true (by first | (with_reducible assumption) | assumption)
    obtain ⟨ad387, e387, hx387_0, hx387_1⟩ := at_T50 HR0.out x3_1 p387 q387
    cases e387
    replace p387 := eq_true p387
    replace q387 := eq_true q387
    have p388 : 0 ≤ (x3_1 : Int) := of_decide_eq_true (by first | (with_reducible assumption) | assumption)
    have q388 : x3_1 < (l0.length : Int) := of_decide_eq_true (by first | (with_reducible assumption) | assumption)
    obtain ⟨ad388, e388, hx388_0, hx388_1⟩ := at_T50 HR0.out x3_1 p388 q388
    obtain rfl : ad387 = ad388 := (by injection e388)
    replace p388 := eq_true p388
    replace q388 := eq_true q388
    go_wp2
    go_ret
    exact ⟨by first | rfl | (simp; done) | (simp [*]; done), by repeat (first | exact Drawn0.refl _ | apply Drawn0.step)⟩
   rw [if_neg c5] at H
   have c5b0 : decide (255 < ((rd_T50 l0 x3_1).f0)) = false := decide_eq_false c5
   clear c5
   have H' := As H
   clear H
   have p387 : 0 ≤ (x3_1 : Int) := of_decide_eq_true (by first | (with_reducible assumption) | assumption)
   have q387 : x3_1 < (l0.length : Int) := of_decide_eq_true (by first | (with_reducible assumption) | assumption)
   obtain ⟨ad387, e387, hx387_0, hx387_1⟩ := at_T50 HR0.out x3_1 p387 q387
   cases e387
   replace p387 := eq_true p387
   replace q387 := eq_true q387
   have p388 : 0 ≤ (x3_1 : Int) := of_decide_eq_true (by first | (with_reducible assumption) | assumption)
   have q388 : x3_1 < (l0.length : Int) := of_decide_eq_true (by first | (with_reducible assumption) | assumption)
   obtain ⟨ad388, e388, hx388_0, hx388_1⟩ := at_T50 HR0.out x3_1 p388 q388
   obtain rfl : ad387 = ad388 := (by injection e388)
   replace p388 := eq_true p388
   replace q388 := eq_true q388
   go_wp2
   go_roundg k1
   case measure => have := HK1.out; omega
   case rel => exact ⟨(wrap64 (x3_1 + 1)), kS, H', ⟨by have := HK1.out; omega⟩, by repeat (first | exact Drawn0.refl _ | apply Drawn0.step)⟩
  rw [if_neg c2] at H
  have c2b0 : decide (x3_1 < (l0.length : Int)) = false := decide_eq_false c2
  clear c2
  obtain rfl := Option.some.inj H
  go_wp2
  go_ret
  exact ⟨by first | rfl | (simp; done) | (simp [*]; done), by repeat (first | exact Drawn0.refl _ | apply Drawn0.step)⟩

/-! ### intrusionref11_Need: function 42 -/
def intrusionref11_Need.l0 : Nat → List (S50) → Int → Int → Option (Int)
 | 0, _, _, _ => none
 | k + 1, x0, x3, x4 => if x4 < (x0.length : Int) then (if 0 ≤ x4 then (intrusionref11_Need.l0 k x0 (mn 41 (wrap64 ((wrap64 (x3 + 2)) + (((rd_T50 x0 x4).f1).size : Int)))) (wrap64 (x4 + 1))) else (none)) else (some x3)
def intrusionref11_Need.f (k : Nat) (l0 : List (S50)) : Option (Int) := intrusionref11_Need.l0 k l0 0 0
theorem intrusionref11_Need.mono_l : ∀ k, (∀ y0 y1 y2, LeO (intrusionref11_Need.l0 k y0 y1 y2) (intrusionref11_Need.l0 (k + 1) y0 y1 y2))
 | 0 => fun _ _ _ r h => by simp [intrusionref11_Need.l0] at h
 | k + 1 => by
  have ih0 := intrusionref11_Need.mono_l k
  intro y0 y1 y2
  unfold intrusionref11_Need.l0
  repeat' first | with_reducible first | apply ih0 | apply LeO.refl | apply LeO.none | refine LeO.ite ?_ ?_ | refine LeO.bind ?_ (fun _ => ?_)
theorem intrusionref11_Need.mono : ∀ a0 k, LeO (intrusionref11_Need.f k a0) (intrusionref11_Need.f (k + 1) a0) := by
 intro a0 k
 have ih0 := intrusionref11_Need.mono_l k
 unfold intrusionref11_Need.f
 repeat' first | with_reducible first | apply ih0 | apply LeO.refl | apply LeO.none | refine LeO.ite ?_ ?_ | refine LeO.bind ?_ (fun _ => ?_)
set_option maxHeartbeats 8000000 in
set_option maxRecDepth 100000 in
theorem intrusionref11_Need.calls (k : Nat) (A0 : Option Addr) (c0 : Nat) (l0 : List (S50)) (r : Int) (w : World) (hr0 : Kd.C k50 w A0 l0.length l0) (hc0 : l0.length ≤ c0) (h : intrusionref11_Need.f k l0 = some r) :
  Calls Try.prog 42 #[.slice A0 l0.length c0] w fun e w' => e = .returned (.int .i64 r) ∧ Below w.heap.size w w' := by
 have HR0 := As hr0
 have HC0 := As hc0
 clear hr0 hc0
 have HB := As (Below.refl w.heap.size w)
 have H : (intrusionref11_Need.l0 k l0 0 0) = some r := h
 clear h
 have H' := As H
 clear H
 go_enter Try.func42, Try.ntmps42
 go_wp2
 go_loopg [3, 4] k (fun kq v3 v4 w' => ∃ (x3_1 : Int) (x4_1 : Int), v3 = .int .i64 x3_1 ∧ v4 = .int .i64 x4_1 ∧ Aside0 (intrusionref11_Need.l0 kq l0 x3_1 x4_1 = some r) ∧ Aside0 (kq ≤ k) ∧ Aside0 (Below w.heap.size w w'))
 case atStart => exact ⟨(0), (0), kS, kS, H', ⟨Nat.le_refl _⟩, ⟨kB HB.out⟩⟩
 clear H'
 obtain ⟨x3_1, x4_1, rfl, rfl, HA, HK1, HB⟩ := hrel
 cases gk with
 | zero => exact absurd HA.out (by simp [intrusionref11_Need.l0])
 | succ k1 =>
  have H := HA.out
  clear HA
  simp only [intrusionref11_Need.l0] at H
  by_cases c2 : x4_1 < (l0.length : Int)
  ·rw [if_pos c2] at H
   have c2b0 : decide (x4_1 < (l0.length : Int)) = true := decide_eq_true c2
   clear c2
   replace H := iS H
   obtain ⟨c3, H⟩ := H
   have c3b0 := decide_eq_true c3
   clear c3
   obtain ⟨ji4, hji4⟩ : ∃ j_ : Int, (mn 41 (wrap64 ((wrap64 (x3_1 + 2)) + (((rd_T50 l0 x4_1).f1).size : Int)))) = j_ := ⟨_, rfl⟩
   replace H : (intrusionref11_Need.l0 k1 l0 ji4 (wrap64 (x4_1 + 1))) = some r := by first | (rw [hji4] at H; exact H) | (simp only [hji4] at H ⊢; exact H)
   have hji4_ : (if (wrap64 ((wrap64 (x3_1 + 2)) + (((rd_T50 l0 x4_1).f1).size : Int))) < 41 then (wrap64 ((wrap64 (x3_1 + 2)) + (((rd_T50 l0 x4_1).f1).size : Int))) else 41) = ji4 := hji4
   have H' := As H
   clear H
   have p389 : 0 ≤ (x4_1 : Int) := of_decide_eq_true (by first | (with_reducible assumption) | assumption)
   have q389 : x4_1 < (l0.length : Int) := of_decide_eq_true (by first | (with_reducible assumption) | assumption)
   obtain ⟨ad389, e389, hx389_0, hx389_1⟩ := at_T50 HR0.out x4_1 p389 q389
   cases e389
   replace hx389_0 := hcell HB.out hx389_0
   replace hx389_1 := hcell HB.out hx389_1
   replace p389 := eq_true p389
   replace q389 := eq_true q389
   go_wp2
   go_roundg k1
   case measure => have := HK1.out; omega
   case rel => exact ⟨(ji4), (wrap64 (x4_1 + 1)), (by first | rfl | (simp; done) | (simp only [← hji4] <;> (first | rfl | simp)) | (simp [*]; done)), kS, H', ⟨by have := HK1.out; omega⟩, ⟨kB HB.out⟩⟩
  rw [if_neg c2] at H
  have c2b0 : decide (x4_1 < (l0.length : Int)) = false := decide_eq_false c2
  clear c2
  obtain rfl := Option.some.inj H
  go_wp2
  go_ret
  exact ⟨kE, by exact kB HB.out⟩

end Go.Proofs.Ytobioaommmgehaa.Z
-- short
-- short2
