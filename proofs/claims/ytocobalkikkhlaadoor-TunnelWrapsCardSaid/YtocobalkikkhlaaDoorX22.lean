/- Functions and their walks, printed by xprint.py. -/
import Derived.Test.YtocobalkikkhlaaDoorX0
namespace Go.Proofs.YtocobalkikkhlaaDoor.X
open Go.RowKit Go.Proofs.YtocobalkikkhlaaDoorW.PrintWords Go.Proofs.YtocobalkikkhlaaDoorW.PrintLast Go.Proofs.YtocobalkikkhlaaDoorW.PrintMore
attribute [local go_sem] max2_int min2_int max_two min_two max_three min_three max_four min_four   -- for this text's walks alone
set_option linter.unusedVariables false
set_option linter.unusedSimpArgs false

/-! ### intrusionref06_Valid: function 56 -/
def intrusionref06_Valid.f (a0_0 : Bool) (a0_1 : Int) (a0_2 : Int) : Option (Bool) := if a0_0 = true then (some true) else (if a0_1 = 0 then (some (decide (a0_2 < 4294967296))) else (some false))
set_option maxHeartbeats 8000000 in
set_option maxRecDepth 100000 in
theorem intrusionref06_Valid.calls (a0_0 : Bool) (a0_1 : Int) (a0_2 : Int) (r : Bool) (w : World) (h : intrusionref06_Valid.f a0_0 a0_1 a0_2 = some r) :
  Calls Tryd.prog 56 #[.agg #[.bool a0_0, .int .u64 a0_1, .int .u64 a0_2]] w fun e w' => e = .returned (.bool r) ∧ Below w.heap.size w w' := by
 have hu24 := Tryd.underlying24
 have HB := As (Below.refl w.heap.size w)
 have H : (if a0_0 = true then (some true) else (if a0_1 = 0 then (some (decide (a0_2 < 4294967296))) else (some false))) = some r := h
 clear h
 by_cases c2 : a0_0 = true
 ·subst c2
  have H1 : (some true) = some r := by rw [if_pos rfl] at H; exact H
  clear H
  have H := H1
  clear H1
  obtain rfl := Option.some.inj H
  go_enter Tryd.func56, Tryd.ntmps56
  go_wp2_with (first | ((with_reducible refine gate_dst (N := 1) rfl ?_); refine box_event rfl (N := 1) rfl (cs := #[.bool true, .int .u64 a0_1, .int .u64 a0_2]) (t := 24) kG ?_; intro gb418 hg w3 hbox hb; have BK418 := As (hbox); have GW418 := As ((by rw [hg]; exact (below_size (kB HB.out)) : w.heap.size ≤ gb418)); have GE418 := As ((by rw [hg]; exact (below_size (kB HB.out)) : w.heap.size ≤ gb418)); replace HB := As (below_step (kB HB.out) hb); clear hb hbox hg; have hcz4_0 := cells_3 BK418.out; have hfz4_0 := fun j_ => blk_frozen BK418.out j_))
  go_ret
  exact ⟨kE, by exact kB1 HB.out GE418.out⟩
 replace c2 := Bool.eq_false_iff.mpr c2
 subst c2
 have H1 : (if a0_1 = 0 then (some (decide (a0_2 < 4294967296))) else (some false)) = some r := by rw [if_neg (show ¬ (false = true) by decide)] at H; exact H
 clear H
 have H := H1
 clear H1
 by_cases c5 : a0_1 = 0
 ·rw [if_pos c5] at H
  have c5b0 : (a0_1 == 0) = true := beq_iff_eq.mpr c5
  have c5b1 : (a0_1 != 0) = false := bne_eq_false_iff_eq.mpr c5
  clear c5
  obtain rfl := Option.some.inj H
  go_enter Tryd.func56, Tryd.ntmps56
  go_wp2_with (first | ((with_reducible refine gate_dst (N := 1) rfl ?_); refine box_event rfl (N := 1) rfl (cs := #[.bool false, .int .u64 a0_1, .int .u64 a0_2]) (t := 24) kG ?_; intro gb418 hg w6 hbox hb; have BK418 := As (hbox); have GW418 := As ((by rw [hg]; exact (below_size (kB HB.out)) : w.heap.size ≤ gb418)); have GE418 := As ((by rw [hg]; exact (below_size (kB HB.out)) : w.heap.size ≤ gb418)); replace HB := As (below_step (kB HB.out) hb); clear hb hbox hg; have hcz7_0 := cells_3 BK418.out; have hfz7_0 := fun j_ => blk_frozen BK418.out j_))
  go_ret
  exact ⟨kE, by exact kB1 HB.out GE418.out⟩
 rw [if_neg c5] at H
 have c5b0 : (a0_1 == 0) = false := beq_eq_false_iff_ne.mpr c5
 have c5b1 : (a0_1 != 0) = true := bne_iff_ne.mpr c5
 obtain rfl := Option.some.inj H
 go_enter Tryd.func56, Tryd.ntmps56
 go_wp2_with (first | ((with_reducible refine gate_dst (N := 1) rfl ?_); refine box_event rfl (N := 1) rfl (cs := #[.bool false, .int .u64 a0_1, .int .u64 a0_2]) (t := 24) kG ?_; intro gb418 hg w8 hbox hb; have BK418 := As (hbox); have GW418 := As ((by rw [hg]; exact (below_size (kB HB.out)) : w.heap.size ≤ gb418)); have GE418 := As ((by rw [hg]; exact (below_size (kB HB.out)) : w.heap.size ≤ gb418)); replace HB := As (below_step (kB HB.out) hb); clear hb hbox hg; have hcz9_0 := cells_3 BK418.out; have hfz9_0 := fun j_ => blk_frozen BK418.out j_))
 go_ret
 exact ⟨kE, by exact kB1 HB.out GE418.out⟩

/-! ### intrusionref17_family: function 30 -/
def intrusionref17_family.f (b0 : Bool) (b1 : Int) (b2 : Int) (d0 : Bool) (d1 : Int) (d2 : Int) : Option (Bool) := (intrusionref06_Valid.f b0 b1 b2).bind fun t421 => (if t421 = true then ((intrusionref06_Valid.f d0 d1 d2).bind fun t422 => (if t422 = true then (some (b0 == d0)) else (some false))) else (some false))
set_option maxHeartbeats 8000000 in
set_option maxRecDepth 100000 in
theorem intrusionref17_family.calls (b0 : Bool) (b1 : Int) (b2 : Int) (d0 : Bool) (d1 : Int) (d2 : Int) (r : Bool) (w : World) (h : intrusionref17_family.f b0 b1 b2 d0 d1 d2 = some r) :
  Calls Tryd.prog 30 #[.agg #[.bool b0, .int .u64 b1, .int .u64 b2], .agg #[.bool d0, .int .u64 d1, .int .u64 d2]] w fun e w' => e = .returned (.bool r) ∧ Below w.heap.size w w' := by
 have hu24 := Tryd.underlying24
 have HB := As (Below.refl w.heap.size w)
 have H : ((intrusionref06_Valid.f b0 b1 b2).bind fun t421 => (if t421 = true then ((intrusionref06_Valid.f d0 d1 d2).bind fun t422 => (if t422 = true then (some (b0 == d0)) else (some false))) else (some false))) = some r := h
 clear h
 replace H := Option.bind_eq_some_iff.mp H
 obtain ⟨t421, A30, H⟩ := H
 replace H : (if t421 = true then ((intrusionref06_Valid.f d0 d1 d2).bind fun t422 => (if t422 = true then (some (b0 == d0)) else (some false))) else (some false)) = some r := H
 have A3 := As A30
 clear A30
 by_cases c4 : t421 = true
 ·subst c4
  have H1 : ((intrusionref06_Valid.f d0 d1 d2).bind fun t422 => (if t422 = true then (some (b0 == d0)) else (some false))) = some r := by rw [if_pos rfl] at H; exact H
  clear H
  have H := H1
  clear H1
  replace H := Option.bind_eq_some_iff.mp H
  obtain ⟨t422, A50, H⟩ := H
  replace H : (if t422 = true then (some (b0 == d0)) else (some false)) = some r := H
  have A5 := As A50
  clear A50
  by_cases c6 : t422 = true
  ·subst c6
   have H1 : (some (b0 == d0)) = some r := by rw [if_pos rfl] at H; exact H
   clear H
   have H := H1
   clear H1
   obtain rfl := Option.some.inj H
   go_enter Tryd.func30, Tryd.ntmps30
   go_wp2_with (first | ((with_reducible refine gate_dst (N := 2) rfl ?_); refine box_event rfl (N := 2) rfl (cs := #[.bool b0, .int .u64 b1, .int .u64 b2]) (t := 24) kG ?_; intro gb419 hg w7 hbox hb; have BK419 := As (hbox); have GW419 := As ((by rw [hg]; exact (below_size (kB HB.out)) : w.heap.size ≤ gb419)); have GE419 := As ((by rw [hg]; exact (below_size (kB HB.out)) : w.heap.size ≤ gb419)); replace HB := As (below_step (kB HB.out) hb); clear hb hbox hg) | ((with_reducible refine gate_dst (N := 3) rfl ?_); refine box_event rfl (N := 3) rfl (cs := #[.bool d0, .int .u64 d1, .int .u64 d2]) (t := 24) kG ?_; intro gb420 hg w8 hbox hb; have BK420 := As (hbox); have GW420 := As ((by rw [hg]; exact (below_size (kB1 HB.out GE419.out)) : w.heap.size ≤ gb420)); have GE420 := As ((by rw [hg]; exact (below_size (kB1 HB.out GE419.out)) : w.heap.size ≤ gb420)); replace HB := As (below_step (kB1 HB.out GE419.out) hb); have NB419_420 := As ((by rw [hg]; exact Nat.ne_of_lt (blk_lt (kb BK419.out)) : gb419 ≠ gb420)); have NB420_419 := As ((by rw [hg]; exact Nat.ne_of_gt (blk_lt (kb BK419.out)) : gb420 ≠ gb419)); replace BK419 := As (blk_below (kb BK419.out) hb); clear hb hbox hg; have hnb9 := NB419_420.out; have hnc9 := NB420_419.out; have hcz10_0 := cells_3 BK419.out; have hfz10_0 := fun j_ => blk_frozen BK419.out j_) | ((with_reducible refine gate_callee (f := 56) rfl ?_); refine goesL_ (some 6) rfl rfl Tryd.func56 (by kernel_rfl) rfl #[.agg #[.bool b0, .int .u64 b1, .int .u64 b2]] rfl kA ?_; (with_reducible refine (intrusionref06_Valid.calls b0 b1 b2 true _ A3.out).mono ?_); rintro e w11 ⟨rfl, hb⟩; refine ⟨_, rfl, ?_⟩; replace BK419 := As (blk_below (kb BK419.out) hb); replace BK420 := As (blk_below (kb BK420.out) hb); replace HB := As (below_step (kB2 HB.out GE419.out GE420.out) hb); (try clear hb); have hcz12_0 := cells_3 BK420.out; have hfz12_0 := fun j_ => blk_frozen BK420.out j_) | (go_at_call 56; (with_reducible refine (intrusionref06_Valid.calls d0 d1 d2 true _ A5.out).mono ?_); rintro e w13 ⟨rfl, hb⟩; replace BK419 := As (blk_below (kb BK419.out) hb); replace BK420 := As (blk_below (kb BK420.out) hb); replace HB := As (below_step (kB2 HB.out GE419.out GE420.out) hb); (try clear hb); have hcz14_0 := cells_3 BK419.out; have hfz14_0 := fun j_ => blk_frozen BK419.out j_; have hcz15_0 := cells_3 BK420.out; have hfz15_0 := fun j_ => blk_frozen BK420.out j_))
   go_ret
   exact ⟨kE, by exact kB2 HB.out GE419.out GE420.out⟩
  replace c6 := Bool.eq_false_iff.mpr c6
  subst c6
  have H1 : (some false) = some r := by rw [if_neg (show ¬ (false = true) by decide)] at H; exact H
  clear H
  have H := H1
  clear H1
  obtain rfl := Option.some.inj H
  go_enter Tryd.func30, Tryd.ntmps30
  go_wp2_with (first | ((with_reducible refine gate_dst (N := 2) rfl ?_); refine box_event rfl (N := 2) rfl (cs := #[.bool b0, .int .u64 b1, .int .u64 b2]) (t := 24) kG ?_; intro gb419 hg w16 hbox hb; have BK419 := As (hbox); have GW419 := As ((by rw [hg]; exact (below_size (kB HB.out)) : w.heap.size ≤ gb419)); have GE419 := As ((by rw [hg]; exact (below_size (kB HB.out)) : w.heap.size ≤ gb419)); replace HB := As (below_step (kB HB.out) hb); clear hb hbox hg) | ((with_reducible refine gate_dst (N := 3) rfl ?_); refine box_event rfl (N := 3) rfl (cs := #[.bool d0, .int .u64 d1, .int .u64 d2]) (t := 24) kG ?_; intro gb420 hg w17 hbox hb; have BK420 := As (hbox); have GW420 := As ((by rw [hg]; exact (below_size (kB1 HB.out GE419.out)) : w.heap.size ≤ gb420)); have GE420 := As ((by rw [hg]; exact (below_size (kB1 HB.out GE419.out)) : w.heap.size ≤ gb420)); replace HB := As (below_step (kB1 HB.out GE419.out) hb); have NB419_420 := As ((by rw [hg]; exact Nat.ne_of_lt (blk_lt (kb BK419.out)) : gb419 ≠ gb420)); have NB420_419 := As ((by rw [hg]; exact Nat.ne_of_gt (blk_lt (kb BK419.out)) : gb420 ≠ gb419)); replace BK419 := As (blk_below (kb BK419.out) hb); clear hb hbox hg; have hnb18 := NB419_420.out; have hnc18 := NB420_419.out; have hcz19_0 := cells_3 BK419.out; have hfz19_0 := fun j_ => blk_frozen BK419.out j_) | ((with_reducible refine gate_callee (f := 56) rfl ?_); refine goesL_ (some 6) rfl rfl Tryd.func56 (by kernel_rfl) rfl #[.agg #[.bool b0, .int .u64 b1, .int .u64 b2]] rfl kA ?_; (with_reducible refine (intrusionref06_Valid.calls b0 b1 b2 true _ A3.out).mono ?_); rintro e w20 ⟨rfl, hb⟩; refine ⟨_, rfl, ?_⟩; replace BK419 := As (blk_below (kb BK419.out) hb); replace BK420 := As (blk_below (kb BK420.out) hb); replace HB := As (below_step (kB2 HB.out GE419.out GE420.out) hb); (try clear hb); have hcz21_0 := cells_3 BK420.out; have hfz21_0 := fun j_ => blk_frozen BK420.out j_) | (go_at_call 56; (with_reducible refine (intrusionref06_Valid.calls d0 d1 d2 false _ A5.out).mono ?_); rintro e w22 ⟨rfl, hb⟩; replace BK419 := As (blk_below (kb BK419.out) hb); replace BK420 := As (blk_below (kb BK420.out) hb); replace HB := As (below_step (kB2 HB.out GE419.out GE420.out) hb); (try clear hb)))
  go_ret
  exact ⟨kE, by exact kB2 HB.out GE419.out GE420.out⟩
 replace c4 := Bool.eq_false_iff.mpr c4
 subst c4
 have H1 : (some false) = some r := by rw [if_neg (show ¬ (false = true) by decide)] at H; exact H
 clear H
 have H := H1
 clear H1
 obtain rfl := Option.some.inj H
 go_enter Tryd.func30, Tryd.ntmps30
 go_wp2_with (first | ((with_reducible refine gate_dst (N := 2) rfl ?_); refine box_event rfl (N := 2) rfl (cs := #[.bool b0, .int .u64 b1, .int .u64 b2]) (t := 24) kG ?_; intro gb419 hg w23 hbox hb; have BK419 := As (hbox); have GW419 := As ((by rw [hg]; exact (below_size (kB HB.out)) : w.heap.size ≤ gb419)); have GE419 := As ((by rw [hg]; exact (below_size (kB HB.out)) : w.heap.size ≤ gb419)); replace HB := As (below_step (kB HB.out) hb); clear hb hbox hg) | ((with_reducible refine gate_dst (N := 3) rfl ?_); refine box_event rfl (N := 3) rfl (cs := #[.bool d0, .int .u64 d1, .int .u64 d2]) (t := 24) kG ?_; intro gb420 hg w24 hbox hb; have BK420 := As (hbox); have GW420 := As ((by rw [hg]; exact (below_size (kB1 HB.out GE419.out)) : w.heap.size ≤ gb420)); have GE420 := As ((by rw [hg]; exact (below_size (kB1 HB.out GE419.out)) : w.heap.size ≤ gb420)); replace HB := As (below_step (kB1 HB.out GE419.out) hb); have NB419_420 := As ((by rw [hg]; exact Nat.ne_of_lt (blk_lt (kb BK419.out)) : gb419 ≠ gb420)); have NB420_419 := As ((by rw [hg]; exact Nat.ne_of_gt (blk_lt (kb BK419.out)) : gb420 ≠ gb419)); replace BK419 := As (blk_below (kb BK419.out) hb); clear hb hbox hg; have hnb25 := NB419_420.out; have hnc25 := NB420_419.out; have hcz26_0 := cells_3 BK419.out; have hfz26_0 := fun j_ => blk_frozen BK419.out j_) | ((with_reducible refine gate_callee (f := 56) rfl ?_); refine goesL_ (some 6) rfl rfl Tryd.func56 (by kernel_rfl) rfl #[.agg #[.bool b0, .int .u64 b1, .int .u64 b2]] rfl kA ?_; (with_reducible refine (intrusionref06_Valid.calls b0 b1 b2 false _ A3.out).mono ?_); rintro e w27 ⟨rfl, hb⟩; refine ⟨_, rfl, ?_⟩; replace BK419 := As (blk_below (kb BK419.out) hb); replace BK420 := As (blk_below (kb BK420.out) hb); replace HB := As (below_step (kB2 HB.out GE419.out GE420.out) hb); (try clear hb)))
 go_ret
 exact ⟨kE, by exact kB2 HB.out GE419.out GE420.out⟩

/-! ### intrusionref17_made: function 32 -/
def intrusionref17_made.f (a0_0 : Bool) (a0_1 : Int) (a0_2 : Int) (a1_0 : Bool) (a1_1 : Int) (a1_2 : Int) (a2 : Int) (a3 : ByteArray) : Option (Bool × Int × Int × Bool × Int × Int × Int × Int × ByteArray × Int) := if (a3.size : Int) > 65000 then (some (false, 0, 0, false, 0, 0, 0, 0, (⟨#[]⟩ : ByteArray), 3)) else (some (a0_0, a0_1, a0_2, a1_0, a1_1, a1_2, a2, 64, a3, 0))
set_option maxHeartbeats 8000000 in
set_option maxRecDepth 100000 in
theorem intrusionref17_made.calls (a0_0 : Bool) (a0_1 : Int) (a0_2 : Int) (a1_0 : Bool) (a1_1 : Int) (a1_2 : Int) (a2 : Int) (a3 : ByteArray) (r1 : Bool) (r2 : Int) (r3 : Int) (r4 : Bool) (r5 : Int) (r6 : Int) (r7 : Int) (r8 : Int) (r9 : ByteArray) (r10 : Int) (w : World) (h : intrusionref17_made.f a0_0 a0_1 a0_2 a1_0 a1_1 a1_2 a2 a3 = some (r1, r2, r3, r4, r5, r6, r7, r8, r9, r10)) :
  Calls Tryd.prog 32 #[.agg #[.bool a0_0, .int .u64 a0_1, .int .u64 a0_2], .agg #[.bool a1_0, .int .u64 a1_1, .int .u64 a1_2], .int .i64 a2, .string a3] w fun e w' => e = .returned (.tuple #[.agg #[.bool r1, .int .u64 r2, .int .u64 r3, .bool r4, .int .u64 r5, .int .u64 r6, .int .i64 r7, .int .i64 r8, .string r9], .int .i64 r10]) ∧ Below w.heap.size w w' := by
 have hu24 := Tryd.underlying24
 have hu30 := Tryd.underlying30
 have HB := As (Below.refl w.heap.size w)
 have H : (if (a3.size : Int) > 65000 then (some (false, 0, 0, false, 0, 0, 0, 0, (⟨#[]⟩ : ByteArray), 3)) else (some (a0_0, a0_1, a0_2, a1_0, a1_1, a1_2, a2, 64, a3, 0))) = some (r1, r2, r3, r4, r5, r6, r7, r8, r9, r10) := h
 clear h
 by_cases c5 : (a3.size : Int) > 65000
 ·rw [if_pos c5] at H
  have c5b0 : decide (65000 < (a3.size : Int)) = true := decide_eq_true c5
  have c5b1 : decide (65000 < a3.size) = true := decide_eq_true (by omega)
  clear c5
  simp only [Option.some.injEq, Prod.mk.injEq] at H
  obtain ⟨rfl, rfl, rfl, rfl, rfl, rfl, rfl, rfl, rfl, rfl⟩ := H
  go_enter Tryd.func32, Tryd.ntmps32
  go_wp2_with (first | ((with_reducible refine gate_dst (N := 4) rfl ?_); refine box_event rfl (N := 4) rfl (cs := #[.bool a0_0, .int .u64 a0_1, .int .u64 a0_2]) (t := 24) kG ?_; intro gb423 hg w6 hbox hb; have BK423 := As (hbox); have GW423 := As ((by rw [hg]; exact (below_size (kB HB.out)) : w.heap.size ≤ gb423)); have GE423 := As ((by rw [hg]; exact (below_size (kB HB.out)) : w.heap.size ≤ gb423)); replace HB := As (below_step (kB HB.out) hb); clear hb hbox hg) | ((with_reducible refine gate_dst (N := 5) rfl ?_); refine box_event rfl (N := 5) rfl (cs := #[.bool a1_0, .int .u64 a1_1, .int .u64 a1_2]) (t := 24) kG ?_; intro gb424 hg w7 hbox hb; have BK424 := As (hbox); have GW424 := As ((by rw [hg]; exact (below_size (kB1 HB.out GE423.out)) : w.heap.size ≤ gb424)); have GE424 := As ((by rw [hg]; exact (below_size (kB1 HB.out GE423.out)) : w.heap.size ≤ gb424)); replace HB := As (below_step (kB1 HB.out GE423.out) hb); have NB423_424 := As ((by rw [hg]; exact Nat.ne_of_lt (blk_lt (kb BK423.out)) : gb423 ≠ gb424)); have NB424_423 := As ((by rw [hg]; exact Nat.ne_of_gt (blk_lt (kb BK423.out)) : gb424 ≠ gb423)); replace BK423 := As (blk_below (kb BK423.out) hb); clear hb hbox hg) | ((with_reducible refine gate_dst (N := 8) rfl ?_); refine box_event rfl (N := 8) rfl (cs := #[.bool false, .int .u64 0, .int .u64 0, .bool false, .int .u64 0, .int .u64 0, .int .i64 0, .int .i64 0, .string (⟨#[]⟩ : ByteArray)]) (t := 30) kG ?_; intro gb425 hg w8 hbox hb; have BK425 := As (hbox); have GW425 := As ((by rw [hg]; exact (below_size (kB2 HB.out GE423.out GE424.out)) : w.heap.size ≤ gb425)); have GE425 := As ((by rw [hg]; exact (below_size (kB2 HB.out GE423.out GE424.out)) : w.heap.size ≤ gb425)); replace HB := As (below_step (kB2 HB.out GE423.out GE424.out) hb); have NB423_425 := As ((by rw [hg]; exact Nat.ne_of_lt (blk_lt (kb BK423.out)) : gb423 ≠ gb425)); have NB425_423 := As ((by rw [hg]; exact Nat.ne_of_gt (blk_lt (kb BK423.out)) : gb425 ≠ gb423)); replace BK423 := As (blk_below (kb BK423.out) hb); have NB424_425 := As ((by rw [hg]; exact Nat.ne_of_lt (blk_lt (kb BK424.out)) : gb424 ≠ gb425)); have NB425_424 := As ((by rw [hg]; exact Nat.ne_of_gt (blk_lt (kb BK424.out)) : gb425 ≠ gb424)); replace BK424 := As (blk_below (kb BK424.out) hb); clear hb hbox hg) | ((with_reducible refine gate_store (t := 30) (p := 8) rfl ?_); refine store_rowev_9 gb425 (.bool false) (.int .u64 0) (.int .u64 0) (.bool false) (.int .u64 0) (.int .u64 0) (.int .i64 0) (.int .i64 0) (.string (⟨#[]⟩ : ByteArray)) rfl (t := 30) (p := 8) (v := _) rfl rfl rfl rfl (t' := 30) (kb BK425.out) (by rfl) (by kernel_rfl) (by rfl) ?_))
  refine bodyPost_ret (results_ct rfl _ _ gb425 30 #[.bool false, .int .u64 0, .int .u64 0, .bool false, .int .u64 0, .int .u64 0, .int .i64 0, .int .i64 0, .string (⟨#[]⟩ : ByteArray)] (0, 0) _ rfl (by refine kb ?_; exact blk_all_9 (kb BK425.out) (by rfl)) Tryd.underlying30 rfl (by kernel_rfl)) rfl ?_
  exact ⟨kE, by exact kB3 HB.out GE423.out GE424.out GE425.out⟩
 rw [if_neg c5] at H
 have c5b0 : decide (65000 < (a3.size : Int)) = false := decide_eq_false c5
 have c5b1 : decide (65000 < a3.size) = false := decide_eq_false (by omega)
 clear c5
 simp only [Option.some.injEq, Prod.mk.injEq] at H
 obtain ⟨rfl, rfl, rfl, rfl, rfl, rfl, rfl, rfl, rfl, rfl⟩ := H
 go_enter Tryd.func32, Tryd.ntmps32
 go_wp2_with (first | ((with_reducible refine gate_dst (N := 4) rfl ?_); refine box_event rfl (N := 4) rfl (cs := #[.bool a0_0, .int .u64 a0_1, .int .u64 a0_2]) (t := 24) kG ?_; intro gb423 hg w9 hbox hb; have BK423 := As (hbox); have GW423 := As ((by rw [hg]; exact (below_size (kB HB.out)) : w.heap.size ≤ gb423)); have GE423 := As ((by rw [hg]; exact (below_size (kB HB.out)) : w.heap.size ≤ gb423)); replace HB := As (below_step (kB HB.out) hb); clear hb hbox hg) | ((with_reducible refine gate_dst (N := 5) rfl ?_); refine box_event rfl (N := 5) rfl (cs := #[.bool a1_0, .int .u64 a1_1, .int .u64 a1_2]) (t := 24) kG ?_; intro gb424 hg w10 hbox hb; have BK424 := As (hbox); have GW424 := As ((by rw [hg]; exact (below_size (kB1 HB.out GE423.out)) : w.heap.size ≤ gb424)); have GE424 := As ((by rw [hg]; exact (below_size (kB1 HB.out GE423.out)) : w.heap.size ≤ gb424)); replace HB := As (below_step (kB1 HB.out GE423.out) hb); have NB423_424 := As ((by rw [hg]; exact Nat.ne_of_lt (blk_lt (kb BK423.out)) : gb423 ≠ gb424)); have NB424_423 := As ((by rw [hg]; exact Nat.ne_of_gt (blk_lt (kb BK423.out)) : gb424 ≠ gb423)); replace BK423 := As (blk_below (kb BK423.out) hb); clear hb hbox hg) | ((with_reducible refine gate_dst (N := 8) rfl ?_); refine box_event rfl (N := 8) rfl (cs := #[.bool false, .int .u64 0, .int .u64 0, .bool false, .int .u64 0, .int .u64 0, .int .i64 0, .int .i64 0, .string (⟨#[]⟩ : ByteArray)]) (t := 30) kG ?_; intro gb425 hg w11 hbox hb; have BK425 := As (hbox); have GW425 := As ((by rw [hg]; exact (below_size (kB2 HB.out GE423.out GE424.out)) : w.heap.size ≤ gb425)); have GE425 := As ((by rw [hg]; exact (below_size (kB2 HB.out GE423.out GE424.out)) : w.heap.size ≤ gb425)); replace HB := As (below_step (kB2 HB.out GE423.out GE424.out) hb); have NB423_425 := As ((by rw [hg]; exact Nat.ne_of_lt (blk_lt (kb BK423.out)) : gb423 ≠ gb425)); have NB425_423 := As ((by rw [hg]; exact Nat.ne_of_gt (blk_lt (kb BK423.out)) : gb425 ≠ gb423)); replace BK423 := As (blk_below (kb BK423.out) hb); have NB424_425 := As ((by rw [hg]; exact Nat.ne_of_lt (blk_lt (kb BK424.out)) : gb424 ≠ gb425)); have NB425_424 := As ((by rw [hg]; exact Nat.ne_of_gt (blk_lt (kb BK424.out)) : gb425 ≠ gb424)); replace BK424 := As (blk_below (kb BK424.out) hb); clear hb hbox hg; have hnb12 := NB423_424.out; have hnc12 := NB424_423.out; have hnb13 := NB423_425.out; have hnc13 := NB425_423.out; have hcz14_0 := cells_3 BK423.out; have hfz14_0 := fun j_ => blk_frozen BK423.out j_; have hnb15 := NB424_425.out; have hnc15 := NB425_424.out; have hcz16_0 := cells_3 BK424.out; have hfz16_0 := fun j_ => blk_frozen BK424.out j_) | ((with_reducible refine gate_store (t := 30) (p := 8) rfl ?_); refine store_rowev_9 gb425 (.bool a0_0) (.int .u64 a0_1) (.int .u64 a0_2) (.bool a1_0) (.int .u64 a1_1) (.int .u64 a1_2) (.int .i64 a2) (.int .i64 64) (.string a3) rfl (t := 30) (p := 8) (v := _) rfl rfl rfl rfl (t' := 30) (kb BK425.out) (by rfl) (by kernel_rfl) (by rfl) ?_))
 refine bodyPost_ret (results_ct rfl _ _ gb425 30 #[.bool a0_0, .int .u64 a0_1, .int .u64 a0_2, .bool a1_0, .int .u64 a1_1, .int .u64 a1_2, .int .i64 a2, .int .i64 64, .string a3] (0, 0) _ rfl (by refine kb ?_; exact blk_all_9 (kb BK425.out) (by rfl)) Tryd.underlying30 rfl (by kernel_rfl)) rfl ?_
 exact ⟨kE, by exact kB3 HB.out GE423.out GE424.out GE425.out⟩

/-! ### intrusionref17_WrapIp: function 23 -/
def intrusionref17_WrapIp.j0 : Nat → ByteArray → Bool → Bool → Int → Int → Bool → Int → Int → Option (Bool × Int × Int × Bool × Int × Int × Int × Int × ByteArray × Int)
 | 0, _, _, _, _, _, _, _, _ => none
 | k + 1, x2, x26, x427000, x427001, x427002, x428000, x428001, x428002 => if x26 = true then (some (false, 0, 0, false, 0, 0, 0, 0, (⟨#[]⟩ : ByteArray), 2)) else (if 0 < (x2.size : Int) then (if ((Int.tdiv (bt x2 0) 16) % 256) = 4 then ((intrusionref17_made.f x427000 x427001 x427002 x428000 x428001 x428002 4 x2).bind fun bt430 => (some (bt430.1, bt430.2.1, bt430.2.2.1, bt430.2.2.2.1, bt430.2.2.2.2.1, bt430.2.2.2.2.2.1, bt430.2.2.2.2.2.2.1, bt430.2.2.2.2.2.2.2.1, bt430.2.2.2.2.2.2.2.2.1, bt430.2.2.2.2.2.2.2.2.2))) else ((intrusionref17_made.f x427000 x427001 x427002 x428000 x428001 x428002 41 x2).bind fun bt440 => (some (bt440.1, bt440.2.1, bt440.2.2.1, bt440.2.2.2.1, bt440.2.2.2.2.1, bt440.2.2.2.2.2.1, bt440.2.2.2.2.2.2.1, bt440.2.2.2.2.2.2.2.1, bt440.2.2.2.2.2.2.2.2.1, bt440.2.2.2.2.2.2.2.2.2)))) else (none))
def intrusionref17_WrapIp.f (k : Nat) (b0 : Bool) (b1 : Int) (b2 : Int) (d0 : Bool) (d1 : Int) (d2 : Int) (a2 : ByteArray) : Option (Bool × Int × Int × Bool × Int × Int × Int × Int × ByteArray × Int) := (intrusionref17_family.f b0 b1 b2 d0 d1 d2).bind fun t429 => (if t429 = true then (if a2.toList = ([] : List UInt8) then (intrusionref17_WrapIp.j0 k a2 true b0 b1 b2 d0 d1 d2) else (if 0 < (a2.size : Int) then (if ((Int.tdiv (bt a2 0) 16) % 256) = 4 then (intrusionref17_WrapIp.j0 k a2 false b0 b1 b2 d0 d1 d2) else (intrusionref17_WrapIp.j0 k a2 (((Int.tdiv (bt a2 0) 16) % 256) != 6) b0 b1 b2 d0 d1 d2)) else (none))) else (some (false, 0, 0, false, 0, 0, 0, 0, (⟨#[]⟩ : ByteArray), 13)))
theorem intrusionref17_WrapIp.mono_l : ∀ k, (∀ y0 y1 y2 y3 y4 y5 y6 y7, LeO (intrusionref17_WrapIp.j0 k y0 y1 y2 y3 y4 y5 y6 y7) (intrusionref17_WrapIp.j0 (k + 1) y0 y1 y2 y3 y4 y5 y6 y7))
 | 0 => fun _ _ _ _ _ _ _ _ r h => by simp [intrusionref17_WrapIp.j0] at h
 | k + 1 => by
  have ih0 := intrusionref17_WrapIp.mono_l k
  intro y0 y1 y2 y3 y4 y5 y6 y7
  unfold intrusionref17_WrapIp.j0
  repeat' first | with_reducible first | apply ih0 | apply LeO.refl | apply LeO.none | refine LeO.ite ?_ ?_ | refine LeO.bind ?_ (fun _ => ?_)
theorem intrusionref17_WrapIp.mono : ∀ a0 a1 a2 a3 a4 a5 a6 k, LeO (intrusionref17_WrapIp.f k a0 a1 a2 a3 a4 a5 a6) (intrusionref17_WrapIp.f (k + 1) a0 a1 a2 a3 a4 a5 a6) := by
 intro a0 a1 a2 a3 a4 a5 a6 k
 have ih0 := intrusionref17_WrapIp.mono_l k
 unfold intrusionref17_WrapIp.f
 repeat' first | with_reducible first | apply ih0 | apply LeO.refl | apply LeO.none | refine LeO.ite ?_ ?_ | refine LeO.bind ?_ (fun _ => ?_)
set_option maxHeartbeats 8000000 in
set_option maxRecDepth 100000 in
theorem intrusionref17_WrapIp.calls (k : Nat) (b0 : Bool) (b1 : Int) (b2 : Int) (d0 : Bool) (d1 : Int) (d2 : Int) (a2 : ByteArray) (r1 : Bool) (r2 : Int) (r3 : Int) (r4 : Bool) (r5 : Int) (r6 : Int) (r7 : Int) (r8 : Int) (r9 : ByteArray) (r10 : Int) (w : World) (h : intrusionref17_WrapIp.f k b0 b1 b2 d0 d1 d2 a2 = some (r1, r2, r3, r4, r5, r6, r7, r8, r9, r10)) :
  Calls Tryd.prog 23 #[.agg #[.bool b0, .int .u64 b1, .int .u64 b2], .agg #[.bool d0, .int .u64 d1, .int .u64 d2], .string a2] w fun e w' => e = .returned (.tuple #[.agg #[.bool r1, .int .u64 r2, .int .u64 r3, .bool r4, .int .u64 r5, .int .u64 r6, .int .i64 r7, .int .i64 r8, .string r9], .int .i64 r10]) ∧ Below w.heap.size w w' := by
 have hu24 := Tryd.underlying24
 have hu30 := Tryd.underlying30
 have HB := As (Below.refl w.heap.size w)
 have H : ((intrusionref17_family.f b0 b1 b2 d0 d1 d2).bind fun t429 => (if t429 = true then (if a2.toList = ([] : List UInt8) then (intrusionref17_WrapIp.j0 k a2 true b0 b1 b2 d0 d1 d2) else (if 0 < (a2.size : Int) then (if ((Int.tdiv (bt a2 0) 16) % 256) = 4 then (intrusionref17_WrapIp.j0 k a2 false b0 b1 b2 d0 d1 d2) else (intrusionref17_WrapIp.j0 k a2 (((Int.tdiv (bt a2 0) 16) % 256) != 6) b0 b1 b2 d0 d1 d2)) else (none))) else (some (false, 0, 0, false, 0, 0, 0, 0, (⟨#[]⟩ : ByteArray), 13)))) = some (r1, r2, r3, r4, r5, r6, r7, r8, r9, r10) := h
 clear h
 replace H := Option.bind_eq_some_iff.mp H
 obtain ⟨t429, A40, H⟩ := H
 replace H : (if t429 = true then (if a2.toList = ([] : List UInt8) then (intrusionref17_WrapIp.j0 k a2 true b0 b1 b2 d0 d1 d2) else (if 0 < (a2.size : Int) then (if ((Int.tdiv (bt a2 0) 16) % 256) = 4 then (intrusionref17_WrapIp.j0 k a2 false b0 b1 b2 d0 d1 d2) else (intrusionref17_WrapIp.j0 k a2 (((Int.tdiv (bt a2 0) 16) % 256) != 6) b0 b1 b2 d0 d1 d2)) else (none))) else (some (false, 0, 0, false, 0, 0, 0, 0, (⟨#[]⟩ : ByteArray), 13))) = some (r1, r2, r3, r4, r5, r6, r7, r8, r9, r10) := H
 have A4 := As A40
 clear A40
 by_cases c5 : t429 = true
 ·subst c5
  have H1 : (if a2.toList = ([] : List UInt8) then (intrusionref17_WrapIp.j0 k a2 true b0 b1 b2 d0 d1 d2) else (if 0 < (a2.size : Int) then (if ((Int.tdiv (bt a2 0) 16) % 256) = 4 then (intrusionref17_WrapIp.j0 k a2 false b0 b1 b2 d0 d1 d2) else (intrusionref17_WrapIp.j0 k a2 (((Int.tdiv (bt a2 0) 16) % 256) != 6) b0 b1 b2 d0 d1 d2)) else (none))) = some (r1, r2, r3, r4, r5, r6, r7, r8, r9, r10) := by rw [if_pos rfl] at H; exact H
  clear H
  have H := H1
  clear H1
  have HC6 := As H
  clear H
  go_enter Tryd.func23, Tryd.ntmps23
  go_upto_region 3 with (first | ((with_reducible refine gate_dst (N := 3) rfl ?_); refine box_event rfl (N := 3) rfl (cs := #[.bool b0, .int .u64 b1, .int .u64 b2]) (t := 24) kG ?_; intro gb426 hg w7 hbox hb; have BK426 := As (hbox); have GW426 := As ((by rw [hg]; exact (below_size (kB HB.out)) : w.heap.size ≤ gb426)); have GE426 := As ((by rw [hg]; exact (below_size (kB HB.out)) : w.heap.size ≤ gb426)); replace HB := As (below_step (kB HB.out) hb); clear hb hbox hg) | ((with_reducible refine gate_dst (N := 4) rfl ?_); refine box_event rfl (N := 4) rfl (cs := #[.bool d0, .int .u64 d1, .int .u64 d2]) (t := 24) kG ?_; intro gb427 hg w8 hbox hb; have BK427 := As (hbox); have GW427 := As ((by rw [hg]; exact (below_size (kB1 HB.out GE426.out)) : w.heap.size ≤ gb427)); have GE427 := As ((by rw [hg]; exact (below_size (kB1 HB.out GE426.out)) : w.heap.size ≤ gb427)); replace HB := As (below_step (kB1 HB.out GE426.out) hb); have NB426_427 := As ((by rw [hg]; exact Nat.ne_of_lt (blk_lt (kb BK426.out)) : gb426 ≠ gb427)); have NB427_426 := As ((by rw [hg]; exact Nat.ne_of_gt (blk_lt (kb BK426.out)) : gb427 ≠ gb426)); replace BK426 := As (blk_below (kb BK426.out) hb); clear hb hbox hg) | ((with_reducible refine gate_dst (N := 6) rfl ?_); refine box_event rfl (N := 6) rfl (cs := #[.bool false, .int .u64 0, .int .u64 0, .bool false, .int .u64 0, .int .u64 0, .int .i64 0, .int .i64 0, .string (⟨#[]⟩ : ByteArray)]) (t := 30) kG ?_; intro gb428 hg w9 hbox hb; have BK428 := As (hbox); have GW428 := As ((by rw [hg]; exact (below_size (kB2 HB.out GE426.out GE427.out)) : w.heap.size ≤ gb428)); have GE428 := As ((by rw [hg]; exact (below_size (kB2 HB.out GE426.out GE427.out)) : w.heap.size ≤ gb428)); replace HB := As (below_step (kB2 HB.out GE426.out GE427.out) hb); have NB426_428 := As ((by rw [hg]; exact Nat.ne_of_lt (blk_lt (kb BK426.out)) : gb426 ≠ gb428)); have NB428_426 := As ((by rw [hg]; exact Nat.ne_of_gt (blk_lt (kb BK426.out)) : gb428 ≠ gb426)); replace BK426 := As (blk_below (kb BK426.out) hb); have NB427_428 := As ((by rw [hg]; exact Nat.ne_of_lt (blk_lt (kb BK427.out)) : gb427 ≠ gb428)); have NB428_427 := As ((by rw [hg]; exact Nat.ne_of_gt (blk_lt (kb BK427.out)) : gb428 ≠ gb427)); replace BK427 := As (blk_below (kb BK427.out) hb); clear hb hbox hg; have hnb10 := NB426_427.out; have hnc10 := NB427_426.out; have hnb11 := NB426_428.out; have hnc11 := NB428_426.out; have hcz12_0 := cells_3 BK426.out; have hfz12_0 := fun j_ => blk_frozen BK426.out j_; have hnb13 := NB427_428.out; have hnc13 := NB428_427.out; have hcz14_0 := cells_3 BK427.out; have hfz14_0 := fun j_ => blk_frozen BK427.out j_) | ((with_reducible refine gate_callee (f := 30) rfl ?_); refine goesL_ (some 10) rfl rfl Tryd.func30 (by kernel_rfl) rfl #[.agg #[.bool b0, .int .u64 b1, .int .u64 b2], .agg #[.bool d0, .int .u64 d1, .int .u64 d2]] rfl kA ?_; (with_reducible refine (intrusionref17_family.calls b0 b1 b2 d0 d1 d2 true _ A4.out).mono ?_); rintro e w15 ⟨rfl, hb⟩; refine ⟨_, rfl, ?_⟩; replace BK426 := As (blk_below (kb BK426.out) hb); replace BK427 := As (blk_below (kb BK427.out) hb); replace BK428 := As (blk_below (kb BK428.out) hb); replace HB := As (below_step (kB3 HB.out GE426.out GE427.out GE428.out) hb); (try clear hb)))
  (try simp only [Act.put, sA, sZ, sS])
  go_cut [26] (fun v26 wc => ∃ (kq : Nat) (x26_5 : Bool), v26 = .bool x26_5 ∧ Aside0 (intrusionref17_WrapIp.j0 kq a2 x26_5 b0 b1 b2 d0 d1 d2 = some (r1, r2, r3, r4, r5, r6, r7, r8, r9, r10)) ∧ Aside0 (kq ≤ k) ∧ Aside0 (wc.heap[gb426]? = some (.cells #[.bool b0, .int .u64 b1, .int .u64 b2] 24 (0, 0))) ∧ Aside0 (wc.heap[gb427]? = some (.cells #[.bool d0, .int .u64 d1, .int .u64 d2] 24 (0, 0))) ∧ Aside0 (wc.heap[gb428]? = some (.cells #[.bool false, .int .u64 0, .int .u64 0, .bool false, .int .u64 0, .int .u64 0, .int .i64 0, .int .i64 0, .string (⟨#[]⟩ : ByteArray)] 30 (0, 0))) ∧ Aside0 (Below w.heap.size w wc))
  case first =>
   have H := HC6.out
   clear HC6
   by_cases c16 : a2.toList = ([] : List UInt8)
   ·rw [if_pos c16] at H
    have c16b0 : (a2.toList == ([] : List UInt8)) = true := beq_iff_eq.mpr c16
    have c16b1 : (a2.toList != ([] : List UInt8)) = false := bne_eq_false_iff_eq.mpr c16
    have c16b2 : (!a2.toList.isEmpty) = false := by simp [c16]
    have c16b3 : a2.toList.isEmpty = true := by simp [c16]
    clear c16
    (first | rw [c16b0] | (simp only [i64_w, i32_w]; rw [c16b0]) | rw [c16b2] | rw [c16b3] | skip)
    have H' := As H
    clear H
    go_wp2
    go_meet
    case rel => exact ⟨_, (true), kS, H', ⟨by first | omega | exact Nat.le_refl _⟩, ⟨kb BK426.out⟩, ⟨kb BK427.out⟩, ⟨kb BK428.out⟩, ⟨kB3 HB.out GE426.out GE427.out GE428.out⟩⟩
   rw [if_neg c16] at H
   have c16b0 : (a2.toList == ([] : List UInt8)) = false := beq_eq_false_iff_ne.mpr c16
   have c16b1 : (a2.toList != ([] : List UInt8)) = true := bne_iff_ne.mpr c16
   have c16b2 : (!a2.toList.isEmpty) = true := by simp [c16]
   have c16b3 : a2.toList.isEmpty = false := by simp [c16]
   (first | rw [c16b0] | (simp only [i64_w, i32_w]; rw [c16b0]) | rw [c16b2] | rw [c16b3] | skip)
   by_cases c17 : 0 < (a2.size : Int)
   ·rw [if_pos c17] at H
    have c17b0 : decide (0 < (a2.size : Int)) = true := decide_eq_true c17
    have c17b1 : decide (0 < a2.size) = true := decide_eq_true (by omega)
    clear c17
    by_cases c19 : ((Int.tdiv (bt a2 0) 16) % 256) = 4
    ·rw [if_pos c19] at H
     have c19b0 : (((Int.tdiv (bt a2 0) 16) % 256) == 4) = true := beq_iff_eq.mpr c19
     have c19b1 : (((Int.tdiv (bt a2 0) 16) % 256) != 4) = false := bne_eq_false_iff_eq.mpr c19
     clear c19
     have H' := As H
     clear H
     have p18 : 0 ≤ (0 : Int) := (by omega)
     have q18 : 0 < a2.size := (by have : (0 : Int) < (a2.size : Int) := of_decide_eq_true (by first | (with_reducible assumption) | assumption); omega)
     have hx18 : ∀ h : 0 < a2.size, ((a2[0]'h).toNat : Int) = bt a2 0 := bt_at a2 0
     clear p18
     have qi18 : (0 < (a2.size : Int)) = True := eq_true (of_decide_eq_true (by first | (with_reducible assumption) | assumption))
     replace q18 := eq_true q18
     go_wp2
     go_meet
     case rel => exact ⟨_, (false), kS, H', ⟨by first | omega | exact Nat.le_refl _⟩, ⟨kb BK426.out⟩, ⟨kb BK427.out⟩, ⟨kb BK428.out⟩, ⟨kB3 HB.out GE426.out GE427.out GE428.out⟩⟩
    rw [if_neg c19] at H
    have c19b0 : (((Int.tdiv (bt a2 0) 16) % 256) == 4) = false := beq_eq_false_iff_ne.mpr c19
    have c19b1 : (((Int.tdiv (bt a2 0) 16) % 256) != 4) = true := bne_iff_ne.mpr c19
    have H' := As H
    clear H
    have p18 : 0 ≤ (0 : Int) := (by omega)
    have q18 : 0 < a2.size := (by have : (0 : Int) < (a2.size : Int) := of_decide_eq_true (by first | (with_reducible assumption) | assumption); omega)
    have hx18 : ∀ h : 0 < a2.size, ((a2[0]'h).toNat : Int) = bt a2 0 := bt_at a2 0
    clear p18
    have qi18 : (0 < (a2.size : Int)) = True := eq_true (of_decide_eq_true (by first | (with_reducible assumption) | assumption))
    replace q18 := eq_true q18
    have p20 : 0 ≤ (0 : Int) := (by omega)
    have q20 : 0 < a2.size := (by have : (0 : Int) < (a2.size : Int) := of_decide_eq_true (by first | (with_reducible assumption) | assumption); omega)
    have hx20 : ∀ h : 0 < a2.size, ((a2[0]'h).toNat : Int) = bt a2 0 := bt_at a2 0
    clear p20
    have qi20 : (0 < (a2.size : Int)) = True := eq_true (of_decide_eq_true (by first | (with_reducible assumption) | assumption))
    replace q20 := eq_true q20
    go_wp2
    go_meet
    case rel => exact ⟨_, ((((Int.tdiv (bt a2 0) 16) % 256) != 6)), kS, H', ⟨by first | omega | exact Nat.le_refl _⟩, ⟨kb BK426.out⟩, ⟨kb BK427.out⟩, ⟨kb BK428.out⟩, ⟨kB3 HB.out GE426.out GE427.out GE428.out⟩⟩
   rw [if_neg c17] at H
   exact absurd H (by simp)
  clear HC6
  try clear c5
  try clear hcz12_0
  try clear hcz14_0
  try clear hfz12_0
  try clear hfz14_0
  obtain ⟨kq, x26_5, rfl, HA, HJ5, BK426, BK427, BK428, HB⟩ := hcut
  cases kq with
  | zero => exact absurd HA.out (by simp [intrusionref17_WrapIp.j0])
  | succ kj5 =>
   have H := HA.out
   clear HA
   simp only [intrusionref17_WrapIp.j0] at H
   by_cases c21 : x26_5 = true
   ·subst c21
    have H1 : (some (false, 0, 0, false, 0, 0, 0, 0, (⟨#[]⟩ : ByteArray), 2)) = some (r1, r2, r3, r4, r5, r6, r7, r8, r9, r10) := by rw [if_pos rfl] at H; exact H
    clear H
    have H := H1
    clear H1
    simp only [Option.some.injEq, Prod.mk.injEq] at H
    obtain ⟨rfl, rfl, rfl, rfl, rfl, rfl, rfl, rfl, rfl, rfl⟩ := H
    go_wp2_with (first | ((with_reducible refine gate_store (t := 30) (p := 6) rfl ?_); refine store_rowev_9 gb428 (.bool false) (.int .u64 0) (.int .u64 0) (.bool false) (.int .u64 0) (.int .u64 0) (.int .i64 0) (.int .i64 0) (.string (⟨#[]⟩ : ByteArray)) rfl (t := 30) (p := 6) (v := _) rfl rfl rfl rfl (t' := 30) (kb BK428.out) (by rfl) (by kernel_rfl) (by rfl) ?_))
    refine bodyPost_ret (results_ct rfl _ _ gb428 30 #[.bool false, .int .u64 0, .int .u64 0, .bool false, .int .u64 0, .int .u64 0, .int .i64 0, .int .i64 0, .string (⟨#[]⟩ : ByteArray)] (0, 0) _ rfl (by refine kb ?_; exact blk_all_9 (kb BK428.out) (by rfl)) Tryd.underlying30 rfl (by kernel_rfl)) rfl ?_
    exact ⟨kE, by exact kB3 HB.out GE426.out GE427.out GE428.out⟩
   replace c21 := Bool.eq_false_iff.mpr c21
   subst c21
   have H1 : (if 0 < (a2.size : Int) then (if ((Int.tdiv (bt a2 0) 16) % 256) = 4 then ((intrusionref17_made.f b0 b1 b2 d0 d1 d2 4 a2).bind fun bt430 => (some (bt430.1, bt430.2.1, bt430.2.2.1, bt430.2.2.2.1, bt430.2.2.2.2.1, bt430.2.2.2.2.2.1, bt430.2.2.2.2.2.2.1, bt430.2.2.2.2.2.2.2.1, bt430.2.2.2.2.2.2.2.2.1, bt430.2.2.2.2.2.2.2.2.2))) else ((intrusionref17_made.f b0 b1 b2 d0 d1 d2 41 a2).bind fun bt440 => (some (bt440.1, bt440.2.1, bt440.2.2.1, bt440.2.2.2.1, bt440.2.2.2.2.1, bt440.2.2.2.2.2.1, bt440.2.2.2.2.2.2.1, bt440.2.2.2.2.2.2.2.1, bt440.2.2.2.2.2.2.2.2.1, bt440.2.2.2.2.2.2.2.2.2)))) else (none)) = some (r1, r2, r3, r4, r5, r6, r7, r8, r9, r10) := by rw [if_neg (show ¬ (false = true) by decide)] at H; exact H
   clear H
   have H := H1
   clear H1
   by_cases c22 : 0 < (a2.size : Int)
   ·rw [if_pos c22] at H
    have c22b0 : decide (0 < (a2.size : Int)) = true := decide_eq_true c22
    have c22b1 : decide (0 < a2.size) = true := decide_eq_true (by omega)
    clear c22
    by_cases c24 : ((Int.tdiv (bt a2 0) 16) % 256) = 4
    ·rw [if_pos c24] at H
     have c24b0 : (((Int.tdiv (bt a2 0) 16) % 256) == 4) = true := beq_iff_eq.mpr c24
     have c24b1 : (((Int.tdiv (bt a2 0) 16) % 256) != 4) = false := bne_eq_false_iff_eq.mpr c24
     clear c24
     replace H := Option.bind_eq_some_iff.mp H
     obtain ⟨⟨t430, t431, t432, t433, t434, t435, t436, t437, t438, t439⟩, A250, H⟩ := H
     replace H : (some (t430, t431, t432, t433, t434, t435, t436, t437, t438, t439)) = some (r1, r2, r3, r4, r5, r6, r7, r8, r9, r10) := H
     have A25 := As A250
     clear A250
     simp only [Option.some.injEq, Prod.mk.injEq] at H
     obtain ⟨rfl, rfl, rfl, rfl, rfl, rfl, rfl, rfl, rfl, rfl⟩ := H
     have p23 : 0 ≤ (0 : Int) := (by omega)
     have q23 : 0 < a2.size := (by have : (0 : Int) < (a2.size : Int) := of_decide_eq_true (by first | (with_reducible assumption) | assumption); omega)
     have hx23 : ∀ h : 0 < a2.size, ((a2[0]'h).toNat : Int) = bt a2 0 := bt_at a2 0
     clear p23
     have qi23 : (0 < (a2.size : Int)) = True := eq_true (of_decide_eq_true (by first | (with_reducible assumption) | assumption))
     replace q23 := eq_true q23
     have hnb26 := NB426_427.out
     have hnc26 := NB427_426.out
     have hnb27 := NB426_428.out
     have hnc27 := NB428_426.out
     have hcz28_0 := cells_3 BK426.out
     have hfz28_0 := fun j_ => blk_frozen BK426.out j_
     have hnb29 := NB427_428.out
     have hnc29 := NB428_427.out
     have hcz30_0 := cells_3 BK427.out
     have hfz30_0 := fun j_ => blk_frozen BK427.out j_
     go_wp2_with (first | ((with_reducible refine gate_callee (f := 32) rfl ?_); refine goesL_ (some 35) rfl rfl Tryd.func32 (by kernel_rfl) rfl #[.agg #[.bool b0, .int .u64 b1, .int .u64 b2], .agg #[.bool d0, .int .u64 d1, .int .u64 d2], .int .i64 4, .string a2] rfl kA ?_; (with_reducible refine (intrusionref17_made.calls b0 b1 b2 d0 d1 d2 4 a2 t430 t431 t432 t433 t434 t435 t436 t437 t438 t439 _ A25.out).mono ?_); rintro e w31 ⟨rfl, hb⟩; refine ⟨_, rfl, ?_⟩; replace BK426 := As (blk_below (kb BK426.out) hb); replace BK427 := As (blk_below (kb BK427.out) hb); replace BK428 := As (blk_below (kb BK428.out) hb); replace HB := As (below_step (kB3 HB.out GE426.out GE427.out GE428.out) hb); (try clear hb)) | ((with_reducible refine gate_store (t := 30) (p := 6) rfl ?_); refine store_rowev_9 gb428 (.bool t430) (.int .u64 t431) (.int .u64 t432) (.bool t433) (.int .u64 t434) (.int .u64 t435) (.int .i64 t436) (.int .i64 t437) (.string t438) rfl (t := 30) (p := 6) (v := _) rfl rfl rfl rfl (t' := 30) (kb BK428.out) (by rfl) (by kernel_rfl) (by rfl) ?_))
     refine bodyPost_ret (results_ct rfl _ _ gb428 30 #[.bool t430, .int .u64 t431, .int .u64 t432, .bool t433, .int .u64 t434, .int .u64 t435, .int .i64 t436, .int .i64 t437, .string t438] (0, 0) _ rfl (by refine kb ?_; exact blk_all_9 (kb BK428.out) (by rfl)) Tryd.underlying30 rfl (by kernel_rfl)) rfl ?_
     exact ⟨kE, by exact kB3 HB.out GE426.out GE427.out GE428.out⟩
    rw [if_neg c24] at H
    have c24b0 : (((Int.tdiv (bt a2 0) 16) % 256) == 4) = false := beq_eq_false_iff_ne.mpr c24
    have c24b1 : (((Int.tdiv (bt a2 0) 16) % 256) != 4) = true := bne_iff_ne.mpr c24
    replace H := Option.bind_eq_some_iff.mp H
    obtain ⟨⟨t440, t441, t442, t443, t444, t445, t446, t447, t448, t449⟩, A320, H⟩ := H
    replace H : (some (t440, t441, t442, t443, t444, t445, t446, t447, t448, t449)) = some (r1, r2, r3, r4, r5, r6, r7, r8, r9, r10) := H
    have A32 := As A320
    clear A320
    simp only [Option.some.injEq, Prod.mk.injEq] at H
    obtain ⟨rfl, rfl, rfl, rfl, rfl, rfl, rfl, rfl, rfl, rfl⟩ := H
    have p23 : 0 ≤ (0 : Int) := (by omega)
    have q23 : 0 < a2.size := (by have : (0 : Int) < (a2.size : Int) := of_decide_eq_true (by first | (with_reducible assumption) | assumption); omega)
    have hx23 : ∀ h : 0 < a2.size, ((a2[0]'h).toNat : Int) = bt a2 0 := bt_at a2 0
    clear p23
    have qi23 : (0 < (a2.size : Int)) = True := eq_true (of_decide_eq_true (by first | (with_reducible assumption) | assumption))
    replace q23 := eq_true q23
    have hnb33 := NB426_427.out
    have hnc33 := NB427_426.out
    have hnb34 := NB426_428.out
    have hnc34 := NB428_426.out
    have hcz35_0 := cells_3 BK426.out
    have hfz35_0 := fun j_ => blk_frozen BK426.out j_
    have hnb36 := NB427_428.out
    have hnc36 := NB428_427.out
    have hcz37_0 := cells_3 BK427.out
    have hfz37_0 := fun j_ => blk_frozen BK427.out j_
    go_wp2_with (first | ((with_reducible refine gate_callee (f := 32) rfl ?_); refine goesL_ (some 41) rfl rfl Tryd.func32 (by kernel_rfl) rfl #[.agg #[.bool b0, .int .u64 b1, .int .u64 b2], .agg #[.bool d0, .int .u64 d1, .int .u64 d2], .int .i64 41, .string a2] rfl kA ?_; (with_reducible refine (intrusionref17_made.calls b0 b1 b2 d0 d1 d2 41 a2 t440 t441 t442 t443 t444 t445 t446 t447 t448 t449 _ A32.out).mono ?_); rintro e w38 ⟨rfl, hb⟩; refine ⟨_, rfl, ?_⟩; replace BK426 := As (blk_below (kb BK426.out) hb); replace BK427 := As (blk_below (kb BK427.out) hb); replace BK428 := As (blk_below (kb BK428.out) hb); replace HB := As (below_step (kB3 HB.out GE426.out GE427.out GE428.out) hb); (try clear hb)) | ((with_reducible refine gate_store (t := 30) (p := 6) rfl ?_); refine store_rowev_9 gb428 (.bool t440) (.int .u64 t441) (.int .u64 t442) (.bool t443) (.int .u64 t444) (.int .u64 t445) (.int .i64 t446) (.int .i64 t447) (.string t448) rfl (t := 30) (p := 6) (v := _) rfl rfl rfl rfl (t' := 30) (kb BK428.out) (by rfl) (by kernel_rfl) (by rfl) ?_))
    refine bodyPost_ret (results_ct rfl _ _ gb428 30 #[.bool t440, .int .u64 t441, .int .u64 t442, .bool t443, .int .u64 t444, .int .u64 t445, .int .i64 t446, .int .i64 t447, .string t448] (0, 0) _ rfl (by refine kb ?_; exact blk_all_9 (kb BK428.out) (by rfl)) Tryd.underlying30 rfl (by kernel_rfl)) rfl ?_
    exact ⟨kE, by exact kB3 HB.out GE426.out GE427.out GE428.out⟩
   rw [if_neg c22] at H
   exact absurd H (by simp)
 replace c5 := Bool.eq_false_iff.mpr c5
 subst c5
 have H1 : (some (false, 0, 0, false, 0, 0, 0, 0, (⟨#[]⟩ : ByteArray), 13)) = some (r1, r2, r3, r4, r5, r6, r7, r8, r9, r10) := by rw [if_neg (show ¬ (false = true) by decide)] at H; exact H
 clear H
 have H := H1
 clear H1
 simp only [Option.some.injEq, Prod.mk.injEq] at H
 obtain ⟨rfl, rfl, rfl, rfl, rfl, rfl, rfl, rfl, rfl, rfl⟩ := H
 go_enter Tryd.func23, Tryd.ntmps23
 go_wp2_with (first | ((with_reducible refine gate_dst (N := 3) rfl ?_); refine box_event rfl (N := 3) rfl (cs := #[.bool b0, .int .u64 b1, .int .u64 b2]) (t := 24) kG ?_; intro gb426 hg w39 hbox hb; have BK426 := As (hbox); have GW426 := As ((by rw [hg]; exact (below_size (kB HB.out)) : w.heap.size ≤ gb426)); have GE426 := As ((by rw [hg]; exact (below_size (kB HB.out)) : w.heap.size ≤ gb426)); replace HB := As (below_step (kB HB.out) hb); clear hb hbox hg) | ((with_reducible refine gate_dst (N := 4) rfl ?_); refine box_event rfl (N := 4) rfl (cs := #[.bool d0, .int .u64 d1, .int .u64 d2]) (t := 24) kG ?_; intro gb427 hg w40 hbox hb; have BK427 := As (hbox); have GW427 := As ((by rw [hg]; exact (below_size (kB1 HB.out GE426.out)) : w.heap.size ≤ gb427)); have GE427 := As ((by rw [hg]; exact (below_size (kB1 HB.out GE426.out)) : w.heap.size ≤ gb427)); replace HB := As (below_step (kB1 HB.out GE426.out) hb); have NB426_427 := As ((by rw [hg]; exact Nat.ne_of_lt (blk_lt (kb BK426.out)) : gb426 ≠ gb427)); have NB427_426 := As ((by rw [hg]; exact Nat.ne_of_gt (blk_lt (kb BK426.out)) : gb427 ≠ gb426)); replace BK426 := As (blk_below (kb BK426.out) hb); clear hb hbox hg) | ((with_reducible refine gate_dst (N := 6) rfl ?_); refine box_event rfl (N := 6) rfl (cs := #[.bool false, .int .u64 0, .int .u64 0, .bool false, .int .u64 0, .int .u64 0, .int .i64 0, .int .i64 0, .string (⟨#[]⟩ : ByteArray)]) (t := 30) kG ?_; intro gb428 hg w41 hbox hb; have BK428 := As (hbox); have GW428 := As ((by rw [hg]; exact (below_size (kB2 HB.out GE426.out GE427.out)) : w.heap.size ≤ gb428)); have GE428 := As ((by rw [hg]; exact (below_size (kB2 HB.out GE426.out GE427.out)) : w.heap.size ≤ gb428)); replace HB := As (below_step (kB2 HB.out GE426.out GE427.out) hb); have NB426_428 := As ((by rw [hg]; exact Nat.ne_of_lt (blk_lt (kb BK426.out)) : gb426 ≠ gb428)); have NB428_426 := As ((by rw [hg]; exact Nat.ne_of_gt (blk_lt (kb BK426.out)) : gb428 ≠ gb426)); replace BK426 := As (blk_below (kb BK426.out) hb); have NB427_428 := As ((by rw [hg]; exact Nat.ne_of_lt (blk_lt (kb BK427.out)) : gb427 ≠ gb428)); have NB428_427 := As ((by rw [hg]; exact Nat.ne_of_gt (blk_lt (kb BK427.out)) : gb428 ≠ gb427)); replace BK427 := As (blk_below (kb BK427.out) hb); clear hb hbox hg; have hnb42 := NB426_427.out; have hnc42 := NB427_426.out; have hnb43 := NB426_428.out; have hnc43 := NB428_426.out; have hcz44_0 := cells_3 BK426.out; have hfz44_0 := fun j_ => blk_frozen BK426.out j_; have hnb45 := NB427_428.out; have hnc45 := NB428_427.out; have hcz46_0 := cells_3 BK427.out; have hfz46_0 := fun j_ => blk_frozen BK427.out j_) | ((with_reducible refine gate_callee (f := 30) rfl ?_); refine goesL_ (some 10) rfl rfl Tryd.func30 (by kernel_rfl) rfl #[.agg #[.bool b0, .int .u64 b1, .int .u64 b2], .agg #[.bool d0, .int .u64 d1, .int .u64 d2]] rfl kA ?_; (with_reducible refine (intrusionref17_family.calls b0 b1 b2 d0 d1 d2 false _ A4.out).mono ?_); rintro e w47 ⟨rfl, hb⟩; refine ⟨_, rfl, ?_⟩; replace BK426 := As (blk_below (kb BK426.out) hb); replace BK427 := As (blk_below (kb BK427.out) hb); replace BK428 := As (blk_below (kb BK428.out) hb); replace HB := As (below_step (kB3 HB.out GE426.out GE427.out GE428.out) hb); (try clear hb)) | ((with_reducible refine gate_store (t := 30) (p := 6) rfl ?_); refine store_rowev_9 gb428 (.bool false) (.int .u64 0) (.int .u64 0) (.bool false) (.int .u64 0) (.int .u64 0) (.int .i64 0) (.int .i64 0) (.string (⟨#[]⟩ : ByteArray)) rfl (t := 30) (p := 6) (v := _) rfl rfl rfl rfl (t' := 30) (kb BK428.out) (by rfl) (by kernel_rfl) (by rfl) ?_))
 refine bodyPost_ret (results_ct rfl _ _ gb428 30 #[.bool false, .int .u64 0, .int .u64 0, .bool false, .int .u64 0, .int .u64 0, .int .i64 0, .int .i64 0, .string (⟨#[]⟩ : ByteArray)] (0, 0) _ rfl (by refine kb ?_; exact blk_all_9 (kb BK428.out) (by rfl)) Tryd.underlying30 rfl (by kernel_rfl)) rfl ?_
 exact ⟨kE, by exact kB3 HB.out GE426.out GE427.out GE428.out⟩

/-! ### intrusionref01_Power: function 57 -/
def intrusionref01_Power.l0 : Nat → Int → Int → Int → Option (Int)
 | 0, _, _, _ => none
 | k + 1, x0, x3, x4 => if x4 < x0 then (intrusionref01_Power.l0 k x0 (wrap64 (x3 * 256)) (wrap64 (x4 + 1))) else (some x3)
def intrusionref01_Power.f (k : Nat) (a0 : Int) : Option (Int) := intrusionref01_Power.l0 k a0 1 0
theorem intrusionref01_Power.mono_l : ∀ k, (∀ y0 y1 y2, LeO (intrusionref01_Power.l0 k y0 y1 y2) (intrusionref01_Power.l0 (k + 1) y0 y1 y2))
 | 0 => fun _ _ _ r h => by simp [intrusionref01_Power.l0] at h
 | k + 1 => by
  have ih0 := intrusionref01_Power.mono_l k
  intro y0 y1 y2
  unfold intrusionref01_Power.l0
  repeat' first | with_reducible first | apply ih0 | apply LeO.refl | apply LeO.none | refine LeO.ite ?_ ?_ | refine LeO.bind ?_ (fun _ => ?_)
theorem intrusionref01_Power.mono : ∀ a0 k, LeO (intrusionref01_Power.f k a0) (intrusionref01_Power.f (k + 1) a0) := by
 intro a0 k
 have ih0 := intrusionref01_Power.mono_l k
 unfold intrusionref01_Power.f
 repeat' first | with_reducible first | apply ih0 | apply LeO.refl | apply LeO.none | refine LeO.ite ?_ ?_ | refine LeO.bind ?_ (fun _ => ?_)
set_option maxHeartbeats 8000000 in
set_option maxRecDepth 100000 in
theorem intrusionref01_Power.calls (k : Nat) (a0 : Int) (r : Int) (w : World) (h : intrusionref01_Power.f k a0 = some r) :
  Calls Tryd.prog 57 #[.int .i64 a0] w fun e w' => e = .returned (.int .i64 r) ∧ Drawn0 w w' := by
 have H : (intrusionref01_Power.l0 k a0 1 0) = some r := h
 clear h
 have H' := As H
 clear H
 go_enter Tryd.func57, Tryd.ntmps57
 go_wp2
 go_loopg [3, 4] k (fun kq v3 v4 w' => ∃ (x3_1 : Int) (x4_1 : Int), v3 = .int .i64 x3_1 ∧ v4 = .int .i64 x4_1 ∧ Aside0 (intrusionref01_Power.l0 kq a0 x3_1 x4_1 = some r) ∧ Aside0 (kq ≤ k) ∧ Drawn0 w w')
 case atStart => exact ⟨(1), (0), kS, kS, H', ⟨Nat.le_refl _⟩, by repeat (first | exact Drawn0.refl _ | apply Drawn0.step)⟩
 clear H'
 obtain ⟨x3_1, x4_1, rfl, rfl, HA, HK1, ⟨m1, rfl⟩⟩ := hrel
 cases gk with
 | zero => exact absurd HA.out (by simp [intrusionref01_Power.l0])
 | succ k1 =>
  have H := HA.out
  clear HA
  simp only [intrusionref01_Power.l0] at H
  by_cases c2 : x4_1 < a0
  ·rw [if_pos c2] at H
   have c2b0 : decide (x4_1 < a0) = true := decide_eq_true c2
   clear c2
   have H' := As H
   clear H
   go_wp2
   go_roundg k1
   case measure => have := HK1.out; omega
   case rel => exact ⟨(wrap64 (x3_1 * 256)), (wrap64 (x4_1 + 1)), kS, kS, H', ⟨by have := HK1.out; omega⟩, by repeat (first | exact Drawn0.refl _ | apply Drawn0.step)⟩
  rw [if_neg c2] at H
  have c2b0 : decide (x4_1 < a0) = false := decide_eq_false c2
  clear c2
  obtain rfl := Option.some.inj H
  go_wp2
  go_ret
  exact ⟨by first | rfl | (simp; done) | (simp [*]; done), by repeat (first | exact Drawn0.refl _ | apply Drawn0.step)⟩

/-! ### intrusionref01_Put: function 31 -/
mutual
def intrusionref01_Put.j0 : Nat → Int → Int → Bool → Option (ByteArray)
 | 0, _, _, _ => none
 | k + 1, x0, x1, x20 => if x20 = true then (some (⟨#[]⟩ : ByteArray)) else (if x1 = 1 then (some (strOfNums (([(x0) % 256] : List Int)))) else ((intrusionref01_Put.f k (wrap64 (Int.tdiv x0 256)) (wrap64 (x1 - 1))).bind fun t483 => ((some (([(Int.tmod x0 256) % 256] : List Int) : List Int)).bind fun y484 => (if t483.size + (strOfNums y484).size ≤ 9223372036854775807 then (some (t483 ++ (strOfNums y484))) else (none)))))
def intrusionref01_Put.f : Nat → Int → Int → Option (ByteArray)
 | 0, _, _ => none
 | k + 1, a0, a1 => if a1 < 1 then (intrusionref01_Put.j0 k a0 a1 true) else (if a1 > 7 then (intrusionref01_Put.j0 k a0 a1 true) else (if a0 < 0 then (intrusionref01_Put.j0 k a0 a1 true) else ((intrusionref01_Power.f k a1).bind fun t479 => (intrusionref01_Put.j0 k a0 a1 (decide (a0 ≥ t479))))))
end
theorem intrusionref01_Put.mono_l : ∀ k, (∀ y0 y1, LeO (intrusionref01_Put.f k y0 y1) (intrusionref01_Put.f (k + 1) y0 y1)) ∧ (∀ y0 y1 y2, LeO (intrusionref01_Put.j0 k y0 y1 y2) (intrusionref01_Put.j0 (k + 1) y0 y1 y2))
 | 0 => ⟨fun _ _ r h => by simp [intrusionref01_Put.f] at h, fun _ _ _ r h => by simp [intrusionref01_Put.j0] at h⟩
 | k + 1 => by
  obtain ⟨ih0, ih1⟩ := intrusionref01_Put.mono_l k
  refine ⟨?_, ?_⟩
  ·intro y0 y1
   unfold intrusionref01_Put.f
   repeat' first | with_reducible first | apply ih0 | apply ih1 | apply intrusionref01_Power.mono | apply LeO.refl | apply LeO.none | refine LeO.ite ?_ ?_ | refine LeO.bind ?_ (fun _ => ?_)
  intro y0 y1 y2
  unfold intrusionref01_Put.j0
  repeat' first | with_reducible first | apply ih0 | apply ih1 | apply intrusionref01_Power.mono | apply LeO.refl | apply LeO.none | refine LeO.ite ?_ ?_ | refine LeO.bind ?_ (fun _ => ?_)
theorem intrusionref01_Put.mono : ∀ a0 a1 k, LeO (intrusionref01_Put.f k a0 a1) (intrusionref01_Put.f (k + 1) a0 a1) := by
 intro a0 a1 k
 obtain ⟨ih0, ih1⟩ := intrusionref01_Put.mono_l k
 exact ih0 a0 a1
def intrusionref01_Put.T5 : Bool × List (List Nat × List Nat) := (true, [([], []), ([0], [0]), ([], []), ([2], [2]), ([1, 3], [1, 3]), ([], []), ([5], [5]), ([6], [6]), ([7], [7]), ([8], [8]), ([4, 9], [4, 9]), ([10, 4, 0, 1, 2, 3, 4, 5, 6, 7, 8, 9, 10], [10])])
def intrusionref01_Put.B5 : List Nat := [0, 1, 0, 4, 15, 0, 32, 96, 224, 480, 1023, 2047]
theorem intrusionref01_Put.tab5 : rtab .any (opsOf Tryd.f31 5) = intrusionref01_Put.T5 := by kernel_rfl
theorem intrusionref01_Put.bits5 : waitsOk intrusionref01_Put.T5.2 intrusionref01_Put.B5 = true := by kernel_rfl
set_option maxHeartbeats 8000000 in
set_option maxRecDepth 100000 in
theorem intrusionref01_Put.calls (k : Nat) : ∀ (a0 : Int) (a1 : Int) (r : ByteArray) (w : World) (h : intrusionref01_Put.f k a0 a1 = some r),
  Calls Tryd.prog 31 #[.int .i64 a0, .int .i64 a1] w fun e w' => e = .returned (.string r) ∧ Below w.heap.size w w' := by
 induction k using Nat.strongRecOn with
 | _ k ih =>
 intro a0 a1 r w h
 cases k with
 | zero => exact absurd h (by simp [intrusionref01_Put.f])
 | succ k =>
 simp only [intrusionref01_Put.f] at h
 have HB := As (Below.refl w.heap.size w)
 have H : (if a1 < 1 then (intrusionref01_Put.j0 k a0 a1 true) else (if a1 > 7 then (intrusionref01_Put.j0 k a0 a1 true) else (if a0 < 0 then (intrusionref01_Put.j0 k a0 a1 true) else ((intrusionref01_Power.f k a1).bind fun t479 => (intrusionref01_Put.j0 k a0 a1 (decide (a0 ≥ t479))))))) = some r := h
 clear h
 have HC3 := As H
 clear H
 go_enter Tryd.func31, Tryd.ntmps31
 go_upto_region 1 with (fail)
 go_cut [20] (fun v20 wc => ∃ (kq : Nat) (x20_2 : Bool), v20 = .bool x20_2 ∧ Aside0 (intrusionref01_Put.j0 kq a0 a1 x20_2 = some r) ∧ Aside0 (kq ≤ k) ∧ Aside0 (Below w.heap.size w wc))
 case first =>
  have H := HC3.out
  clear HC3
  by_cases c4 : a1 < 1
  ·rw [if_pos c4] at H
   have c4b0 : decide (a1 < 1) = true := decide_eq_true c4
   clear c4
   (first | rw [c4b0] | (simp only [i64_w, i32_w]; rw [c4b0]) | skip)
   have H' := As H
   clear H
   go_wp2
   go_meet
   case rel => exact ⟨_, (true), kS, H', ⟨by first | omega | exact Nat.le_refl _⟩, ⟨kB HB.out⟩⟩
  rw [if_neg c4] at H
  have c4b0 : decide (a1 < 1) = false := decide_eq_false c4
  clear c4
  (first | rw [c4b0] | (simp only [i64_w, i32_w]; rw [c4b0]) | skip)
  by_cases c5 : a1 > 7
  ·rw [if_pos c5] at H
   have c5b0 : decide (7 < a1) = true := decide_eq_true c5
   clear c5
   have H' := As H
   clear H
   go_wp2
   go_meet
   case rel => exact ⟨_, (true), kS, H', ⟨by first | omega | exact Nat.le_refl _⟩, ⟨kB HB.out⟩⟩
  rw [if_neg c5] at H
  have c5b0 : decide (7 < a1) = false := decide_eq_false c5
  clear c5
  by_cases c6 : a0 < 0
  ·rw [if_pos c6] at H
   have c6b0 : decide (a0 < 0) = true := decide_eq_true c6
   clear c6
   have H' := As H
   clear H
   go_wp2
   go_meet
   case rel => exact ⟨_, (true), kS, H', ⟨by first | omega | exact Nat.le_refl _⟩, ⟨kB HB.out⟩⟩
  rw [if_neg c6] at H
  have c6b0 : decide (a0 < 0) = false := decide_eq_false c6
  clear c6
  replace H := Option.bind_eq_some_iff.mp H
  obtain ⟨t479, A70, H⟩ := H
  replace H : (intrusionref01_Put.j0 k a0 a1 (decide (a0 ≥ t479))) = some r := H
  have A7 := As A70
  clear A70
  have H' := As H
  clear H
  go_wp2_with (first | (go_at_call 57; (with_reducible refine (intrusionref01_Power.calls k a1 t479 _ A7.out).mono ?_); rintro e w' ⟨rfl, ⟨nd, rfl⟩⟩))
  go_meet
  case rel => exact ⟨_, (decide (a0 ≥ t479)), kS, H', ⟨by first | omega | exact Nat.le_refl _⟩, ⟨kB HB.out⟩⟩
 clear HC3
 obtain ⟨kq, x20_2, rfl, HA, HJ2, HB⟩ := hcut
 cases kq with
 | zero => exact absurd HA.out (by simp [intrusionref01_Put.j0])
 | succ kj2 =>
  have H := HA.out
  clear HA
  simp only [intrusionref01_Put.j0] at H
  by_cases c8 : x20_2 = true
  ·subst c8
   have H1 : (some (⟨#[]⟩ : ByteArray)) = some r := by rw [if_pos rfl] at H; exact H
   clear H
   have H := H1
   clear H1
   obtain rfl := Option.some.inj H
   go_wp2
   go_ret
   exact ⟨kE, by exact kB HB.out⟩
  replace c8 := Bool.eq_false_iff.mpr c8
  subst c8
  have H1 : (if a1 = 1 then (some (strOfNums (([(a0) % 256] : List Int)))) else ((intrusionref01_Put.f kj2 (wrap64 (Int.tdiv a0 256)) (wrap64 (a1 - 1))).bind fun t483 => ((some (([(Int.tmod a0 256) % 256] : List Int) : List Int)).bind fun y484 => (if t483.size + (strOfNums y484).size ≤ 9223372036854775807 then (some (t483 ++ (strOfNums y484))) else (none))))) = some r := by rw [if_neg (show ¬ (false = true) by decide)] at H; exact H
  clear H
  have H := H1
  clear H1
  by_cases c9 : a1 = 1
  ·rw [if_pos c9] at H
   have c9b0 : (a1 == 1) = true := beq_iff_eq.mpr c9
   have c9b1 : (a1 != 1) = false := bne_eq_false_iff_eq.mpr c9
   clear c9
   obtain ⟨y480, hy480⟩ : ∃ y_ : List Int, y_ = (([(a0) % 256] : List Int)) := ⟨_, rfl⟩
   replace H : (some (strOfNums y480)) = some r := by first | (rw [hy480]; with_reducible exact H) | (have H2_ := (Option.bind_some _ _).symm.trans H; rw [hy480]; with_reducible exact H2_) | (have H2_ := (Option.bind_some _ _).symm.trans H; with_reducible exact H2_) | with_reducible exact H | (rw [hy480]; exact H) | exact H
   have Ny480 := As hy480
   clear hy480
   obtain rfl := Option.some.inj H
   go_wp2_with (first | ((with_reducible refine gate_dst (N := 25) rfl ?_); refine Kd.R_lit (Kd.int .u8) _ 5 rfl (N := 25) rfl (xs := ([(a0) % 256] : List Int)) (inner := [.int .u8 ((a0) % 256)]) (ok := fun _ => True) (okp := fun _ => True) kG ?hp (fun _ hk => hk) trivial (Below.refl _ _) (Nat.le_refl _) (by simp) ?_; (case hp => exact (Reps.one (show Kd.M (Kd.int .u8) _ _ _ ((a0) % 256) [.int .u8 ((a0) % 256)] from rfl) (Reps.none _ _))); intro v481 w10 ho11 hb hg_ hnew_; clear hg_ hnew_; (first | rw [← Ny480.out] at ho11 | (simp only [Int.reduceToNat] at ho11; rw [← Ny480.out] at ho11)); have HO482 := As (Kd.R_lower ho11 (below_size (kB HB.out))); replace HB := As (below_step (kB HB.out) hb); clear hb ho11; have hcv12 := own_string (P := Tryd.prog) Tryd.underlying47 Tryd.underlying5 Tryd.underlying9 (Kd.own_of_R HO482.out)))
   go_ret
   exact ⟨kE, by exact kB HB.out⟩
  rw [if_neg c9] at H
  have c9b0 : (a1 == 1) = false := beq_eq_false_iff_ne.mpr c9
  have c9b1 : (a1 != 1) = true := bne_iff_ne.mpr c9
  replace H := Option.bind_eq_some_iff.mp H
  obtain ⟨t483, A130, H⟩ := H
  replace H : ((some (([(Int.tmod a0 256) % 256] : List Int) : List Int)).bind fun y484 => (if t483.size + (strOfNums y484).size ≤ 9223372036854775807 then (some (t483 ++ (strOfNums y484))) else (none))) = some r := H
  have A13 := As A130
  clear A130
  obtain ⟨y484, hy484⟩ : ∃ y_ : List Int, y_ = (([(Int.tmod a0 256) % 256] : List Int)) := ⟨_, rfl⟩
  replace H : (if t483.size + (strOfNums y484).size ≤ 9223372036854775807 then (some (t483 ++ (strOfNums y484))) else (none)) = some r := by first | (rw [hy484]; with_reducible exact H) | (have H2_ := (Option.bind_some _ _).symm.trans H; rw [hy484]; with_reducible exact H2_) | (have H2_ := (Option.bind_some _ _).symm.trans H; with_reducible exact H2_) | with_reducible exact H | (rw [hy484]; exact H) | exact H
  have Ny484 := As hy484
  clear hy484
  by_cases c14 : t483.size + (strOfNums y484).size ≤ 9223372036854775807
  ·rw [if_pos c14] at H
   have c14b0 := eq_true c14
   have c14b1 : decide (t483.size + (strOfNums y484).size ≤ 9223372036854775807) = true := decide_eq_true c14
   try have c14b2 : (9223372036854775807 < t483.size + (strOfNums y484).size) = False := eq_false (Nat.not_lt.2 c14)
   obtain rfl := Option.some.inj H
   try go_wp2
   replace HB := As (below_drew1 HB.out)
   refine start_ (n := 12) (S := fun w' => True) (ds := []) #[O, O, O, O, O, O, O, O, O, O, O, O] (by kernel_rfl) rfl rfl trivial (fun hHeld => ?_); refine with_tabW intrusionref01_Put.tab5 intrusionref01_Put.bits5 (fun HT_ HW_ => ?_)
   generalize wc.drew = w15 at HB hHeld ⊢
   refine kP 0 27 #[I, O, O, O, O, O, O, O, O, O, O, O] ?_ (any_of HT_.out (by kernel_rfl))
   refine kP 1 28 #[I, I, O, O, O, O, O, O, O, O, O, O] ?_ (any_of HT_.out (by kernel_rfl))
   refine kP 2 29 #[I, I, I, O, O, O, O, O, O, O, O, O] ?_ (any_of HT_.out (by kernel_rfl))
   refine kP 3 30 #[I, I, I, I, O, O, O, O, O, O, O, O] ?_ (any_of HT_.out (by kernel_rfl))
   refine kP 5 32 #[I, I, I, I, O, I, O, O, O, O, O, O] ?_ (any_of HT_.out (by kernel_rfl))
   refine kP 6 33 #[I, I, I, I, O, I, I, O, O, O, O, O] ?_ (any_of HT_.out (by kernel_rfl))
   refine kP 7 34 #[I, I, I, I, O, I, I, I, O, O, O, O] ?_ (any_of HT_.out (by kernel_rfl))
   refine join_ (σ := Value) 2 #[I, I, I, I, I, I, I, I, I, I, O, O] (fun s_ => [(31, .string t483), (35, s_), (36, .string (strOfNums y484))]) (fun s_ w' => (Kd.R (Kd.int .u8) 5 w' w.heap.size (fun _ => True) s_ y484) ∧ (Below w.heap.size w w')) ?_ ?_
   rotate_left
   ·intro hCont
    refine two_ (i := 4) (j := 8) (Ni := some 31) (Nj := some 35) #[I, I, I, I, I, I, I, I, O, O, O, O] #[I, I, I, I, O, I, I, I, I, O, O, O] rfl rfl rfl rfl (two_of HT_.out (by kernel_rfl)) (by decide) (by decide) (fun K hK => ?_) (fun K hK => ?_)
    ·skip
     refine goes_ Tryd.func31 (by kernel_rfl) rfl #[.int .i64 (wrap64 (Int.tdiv a0 256)), .int .i64 (wrap64 (a1 - 1))] (by rfl) rfl rfl kA ?_
     with_reducible refine (ih kj2 (by have := HJ2.out; omega) (wrap64 (Int.tdiv a0 256)) (wrap64 (a1 - 1)) t483 _ A13.out).mono ?_
     rintro e w16 ⟨rfl, hb⟩
     refine ⟨_, rfl, ?_⟩
     replace HB := As (below_step (kB HB.out) hb)
     (try clear hb)
     (try clear hb2)
     (try clear hk)
     (try clear hi)
     refine hK.out _ _ trivial (fun hHeld => ?_)
     clear hK K
     refine norm_ (a' := ?_) ?_ ?_
     rotate_left
     ·show Act.put _ (some 31) _ = _
      simp only [Act.put, sA, sZ, sS, i64_w, i32_w]
      rfl
     refine one_ (i := 8) (N := some 35) #[I, I, I, I, I, I, I, I, I, O, O, O] rfl rfl (one_of HT_.out (by kernel_rfl)) (by decide) (fun K hK => ?_)
     refine Kd.R_lit_step (Kd.int .u8) _ 5 rfl (N := 35) rfl (xs := ([(Int.tmod a0 256) % 256] : List Int)) (inner := [.int .u8 ((Int.tmod a0 256) % 256)]) (ok := fun _ => True) (okp := fun _ => True) kG ?hp (fun _ hk => hk) trivial (Below.refl _ _) (Nat.le_refl _) (by simp) ?_; (case hp => exact (Reps.one (show Kd.M (Kd.int .u8) _ _ _ ((Int.tmod a0 256) % 256) [.int .u8 ((Int.tmod a0 256) % 256)] from rfl) (Reps.none _ _)))
     intro v485 w17 ho18 hb hg_ hnew_
     clear hg_ hnew_
     (first | rw [← Ny484.out] at ho18 | (simp only [Int.reduceToNat] at ho18; rw [← Ny484.out] at ho18))
     have HO486 := As (Kd.R_lower ho18 (below_size (kB HB.out)))
     replace HB := As (below_step (kB HB.out) hb)
     clear hb ho18
     refine hK.out _ _ trivial (fun hHeld => ?_)
     clear hK K
     refine norm_ (a' := ?_) ?_ ?_
     rotate_left
     ·show Act.put _ (some 35) _ = _
      simp only [Act.put, sA, sZ, sS, i64_w, i32_w]
      rfl
     refine one_ (i := 9) (N := some 36) #[I, I, I, I, I, I, I, I, I, I, O, O] rfl rfl (one_of HT_.out (by kernel_rfl)) (by decide) (fun K hK => ?_)
     have hcv19 := own_string (P := Tryd.prog) Tryd.underlying47 Tryd.underlying5 Tryd.underlying9 (Kd.own_of_R HO486.out)
     refine value_ (w1 := ?_) (v := ?_) (by rfl) rfl ?_ ?_
     rotate_left 2
     ·go_simp
      constructor
      ·rfl
      rfl
     clear hcv19
     refine hK.out _ _ trivial (fun hHeld => ?_)
     clear hK K
     refine norm_ (a' := ?_) ?_ ?_
     rotate_left
     ·show Act.put _ (some 36) _ = _
      simp only [Act.put, sA, sZ, sS, i64_w, i32_w]
      rfl
     exact norm_ (by simp only [putAll, Act.put, sA, sZ, sS]) (hCont (v485) _ ⟨(kR HO486.out), (kB HB.out)⟩)
    skip
    refine Kd.R_lit_step (Kd.int .u8) _ 5 rfl (N := 35) rfl (xs := ([(Int.tmod a0 256) % 256] : List Int)) (inner := [.int .u8 ((Int.tmod a0 256) % 256)]) (ok := fun _ => True) (okp := fun _ => True) kG ?hp (fun _ hk => hk) trivial (Below.refl _ _) (Nat.le_refl _) (by simp) ?_; (case hp => exact (Reps.one (show Kd.M (Kd.int .u8) _ _ _ ((Int.tmod a0 256) % 256) [.int .u8 ((Int.tmod a0 256) % 256)] from rfl) (Reps.none _ _)))
    intro v485 w16 ho17 hb hg_ hnew_
    clear hg_ hnew_
    (first | rw [← Ny484.out] at ho17 | (simp only [Int.reduceToNat] at ho17; rw [← Ny484.out] at ho17))
    have HO486 := As (Kd.R_lower ho17 (below_size (kB HB.out)))
    replace HB := As (below_step (kB HB.out) hb)
    clear hb ho17
    refine hK.out _ _ trivial (fun hHeld => ?_)
    clear hK K
    refine norm_ (a' := ?_) ?_ ?_
    rotate_left
    ·show Act.put _ (some 35) _ = _
     simp only [Act.put, sA, sZ, sS, i64_w, i32_w]
     rfl
    refine two_ (i := 4) (j := 9) (Ni := some 31) (Nj := some 36) #[I, I, I, I, I, I, I, I, I, O, O, O] #[I, I, I, I, O, I, I, I, I, I, O, O] rfl rfl rfl rfl (two_of HT_.out (by kernel_rfl)) (by decide) (by decide) (fun K hK => ?_) (fun K hK => ?_)
    ·skip
     refine goes_ Tryd.func31 (by kernel_rfl) rfl #[.int .i64 (wrap64 (Int.tdiv a0 256)), .int .i64 (wrap64 (a1 - 1))] (by rfl) rfl rfl kA ?_
     with_reducible refine (ih kj2 (by have := HJ2.out; omega) (wrap64 (Int.tdiv a0 256)) (wrap64 (a1 - 1)) t483 _ A13.out).mono ?_
     rintro e w18 ⟨rfl, hb⟩
     refine ⟨_, rfl, ?_⟩
     replace HO486 := As (Kd.R_below (kR HO486.out) hb)
     replace HB := As (below_step (kB HB.out) hb)
     (try clear hb)
     (try clear hb2)
     (try clear hk)
     (try clear hi)
     refine hK.out _ _ trivial (fun hHeld => ?_)
     clear hK K
     refine norm_ (a' := ?_) ?_ ?_
     rotate_left
     ·show Act.put _ (some 31) _ = _
      simp only [Act.put, sA, sZ, sS, i64_w, i32_w]
      rfl
     refine one_ (i := 9) (N := some 36) #[I, I, I, I, I, I, I, I, I, I, O, O] rfl rfl (one_of HT_.out (by kernel_rfl)) (by decide) (fun K hK => ?_)
     have hcv19 := own_string (P := Tryd.prog) Tryd.underlying47 Tryd.underlying5 Tryd.underlying9 (Kd.own_of_R HO486.out)
     refine value_ (w1 := ?_) (v := ?_) (by rfl) rfl ?_ ?_
     rotate_left 2
     ·go_simp
      constructor
      ·rfl
      rfl
     clear hcv19
     refine hK.out _ _ trivial (fun hHeld => ?_)
     clear hK K
     refine norm_ (a' := ?_) ?_ ?_
     rotate_left
     ·show Act.put _ (some 36) _ = _
      simp only [Act.put, sA, sZ, sS, i64_w, i32_w]
      rfl
     exact norm_ (by simp only [putAll, Act.put, sA, sZ, sS]) (hCont (v485) _ ⟨(kR HO486.out), (kB HB.out)⟩)
    skip
    have hcv18 := own_string (P := Tryd.prog) Tryd.underlying47 Tryd.underlying5 Tryd.underlying9 (Kd.own_of_R HO486.out)
    refine value_ (w1 := ?_) (v := ?_) (by rfl) rfl ?_ ?_
    rotate_left 2
    ·go_simp
     constructor
     ·rfl
     rfl
    clear hcv18
    refine hK.out _ _ trivial (fun hHeld => ?_)
    clear hK K
    refine norm_ (a' := ?_) ?_ ?_
    rotate_left
    ·show Act.put _ (some 36) _ = _
     simp only [Act.put, sA, sZ, sS, i64_w, i32_w]
     rfl
    refine one_ (i := 4) (N := some 31) #[I, I, I, I, I, I, I, I, I, I, O, O] rfl rfl (one_of HT_.out (by kernel_rfl)) (by decide) (fun K hK => ?_)
    refine goes_ Tryd.func31 (by kernel_rfl) rfl #[.int .i64 (wrap64 (Int.tdiv a0 256)), .int .i64 (wrap64 (a1 - 1))] (by rfl) rfl rfl kA ?_
    with_reducible refine (ih kj2 (by have := HJ2.out; omega) (wrap64 (Int.tdiv a0 256)) (wrap64 (a1 - 1)) t483 _ A13.out).mono ?_
    rintro e w19 ⟨rfl, hb⟩
    refine ⟨_, rfl, ?_⟩
    replace HO486 := As (Kd.R_below (kR HO486.out) hb)
    replace HB := As (below_step (kB HB.out) hb)
    (try clear hb)
    (try clear hb2)
    (try clear hk)
    (try clear hi)
    refine hK.out _ _ trivial (fun hHeld => ?_)
    clear hK K
    refine norm_ (a' := ?_) ?_ ?_
    rotate_left
    ·show Act.put _ (some 31) _ = _
     simp only [Act.put, sA, sZ, sS, i64_w, i32_w]
     rfl
    exact norm_ (by simp only [putAll, Act.put, sA, sZ, sS]) (hCont (v485) _ ⟨(kR HO486.out), (kB HB.out)⟩)
   rintro v485 w20 ⟨h0_, h1_⟩
   have n0_ : Aside0 (Kd.R (Kd.int .u8) 5 w20 w.heap.size (fun _ => True) v485 y484) := ⟨h0_⟩
   have n1_ : Aside0 (Below w.heap.size w w20) := ⟨h1_⟩
   clear HB
   clear h0_ h1_
   have HO486 := n0_
   have HB := n1_
   clear n0_ n1_
   have hHeld := trivial
   refine norm_ (a' := ?_) ?_ ?_
   rotate_left
   ·simp only [putAll, Act.put, sA, sZ, sS]
    rfl
   refine kP 10 37 #[I, I, I, I, I, I, I, I, I, I, I, O] ?_ (any_of HT_.out (by kernel_rfl))
   refine kP 11 4 #[I, I, I, I, I, I, I, I, I, I, I, I] ?_ (any_of HT_.out (by kernel_rfl))
   refine done_ (done_of HT_.out (by kernel_rfl)) ?_
   try go_wp2
   go_ret
   exact ⟨kE, by exact kB HB.out⟩
  rw [if_neg c14] at H
  exact absurd H (by simp)

end Go.Proofs.YtocobalkikkhlaaDoor.X
-- short
