/- Functions and their walks, printed by xprint.py. -/
import Derived.Test.YtocobalkikkhlaaDoorX0
namespace Go.Proofs.YtocobalkikkhlaaDoor.X
open Go.RowKit Go.Proofs.YtocobalkikkhlaaDoorW.PrintWords Go.Proofs.YtocobalkikkhlaaDoorW.PrintLast Go.Proofs.YtocobalkikkhlaaDoorW.PrintMore
attribute [local go_sem] max2_int min2_int max_two min_two max_three min_three max_four min_four   -- for this text's walks alone
set_option linter.unusedVariables false
set_option linter.unusedSimpArgs false

/-! ### address_Valid: function 53 -/
def address_Valid.f (a0_0 : Bool) (a0_1 : Int) (a0_2 : Int) : Option (Bool) := if a0_0 = true then (some true) else (if a0_1 = 0 then (some (decide (a0_2 ≤ 4294967295))) else (some false))
set_option maxHeartbeats 8000000 in
set_option maxRecDepth 100000 in
theorem address_Valid.calls (a0_0 : Bool) (a0_1 : Int) (a0_2 : Int) (r : Bool) (w : World) (h : address_Valid.f a0_0 a0_1 a0_2 = some r) :
  Calls Tryd.prog 53 #[.agg #[.bool a0_0, .int .u64 a0_1, .int .u64 a0_2]] w fun e w' => e = .returned (.bool r) ∧ Below w.heap.size w w' := by
 have hu24 := Tryd.underlying24
 have HB := As (Below.refl w.heap.size w)
 have H : (if a0_0 = true then (some true) else (if a0_1 = 0 then (some (decide (a0_2 ≤ 4294967295))) else (some false))) = some r := h
 clear h
 by_cases c2 : a0_0 = true
 ·subst c2
  rw [if_pos rfl] at H
  obtain rfl := Option.some.inj H
  go_enter Tryd.func53, Tryd.ntmps53
  go_wp2_with (first | ((with_reducible refine gate_dst (N := 1) rfl ?_); refine box_event rfl (N := 1) rfl (cs := #[.bool true, .int .u64 a0_1, .int .u64 a0_2]) (t := 24) kG ?_; intro gb101 hg w3 hbox hb; have BK101 := As (hbox); have GW101 := As (gS hg (below_size (kB HB.out))); have GE101 := As (gS hg (below_size (kB HB.out))); replace HB := As (below_step (kB HB.out) hb); clear hb hbox hg; have hcz4_0 := cells_3 BK101.out; have hfz4_0 := fun j_ => blk_frozen BK101.out j_))
  go_ret
  exact ⟨kE, by exact kB1 HB.out GE101.out⟩
 replace c2 := Bool.eq_false_iff.mpr c2
 subst c2
 rw [if_neg (show ¬ (false = true) by decide)] at H
 by_cases c5 : a0_1 = 0
 ·rw [if_pos c5] at H
  have c5b0 : (a0_1 == 0) = true := beq_iff_eq.mpr c5
  have c5b1 : (a0_1 != 0) = false := bne_eq_false_iff_eq.mpr c5
  clear c5
  obtain rfl := Option.some.inj H
  go_enter Tryd.func53, Tryd.ntmps53
  go_wp2_with (first | ((with_reducible refine gate_dst (N := 1) rfl ?_); refine box_event rfl (N := 1) rfl (cs := #[.bool false, .int .u64 a0_1, .int .u64 a0_2]) (t := 24) kG ?_; intro gb101 hg w6 hbox hb; have BK101 := As (hbox); have GW101 := As (gS hg (below_size (kB HB.out))); have GE101 := As (gS hg (below_size (kB HB.out))); replace HB := As (below_step (kB HB.out) hb); clear hb hbox hg; have hcz7_0 := cells_3 BK101.out; have hfz7_0 := fun j_ => blk_frozen BK101.out j_))
  go_ret
  exact ⟨kE, by exact kB1 HB.out GE101.out⟩
 rw [if_neg c5] at H
 have c5b0 : (a0_1 == 0) = false := beq_eq_false_iff_ne.mpr c5
 have c5b1 : (a0_1 != 0) = true := bne_iff_ne.mpr c5
 obtain rfl := Option.some.inj H
 go_enter Tryd.func53, Tryd.ntmps53
 go_wp2_with (first | ((with_reducible refine gate_dst (N := 1) rfl ?_); refine box_event rfl (N := 1) rfl (cs := #[.bool false, .int .u64 a0_1, .int .u64 a0_2]) (t := 24) kG ?_; intro gb101 hg w8 hbox hb; have BK101 := As (hbox); have GW101 := As (gS hg (below_size (kB HB.out))); have GE101 := As (gS hg (below_size (kB HB.out))); replace HB := As (below_step (kB HB.out) hb); clear hb hbox hg; have hcz9_0 := cells_3 BK101.out; have hfz9_0 := fun j_ => blk_frozen BK101.out j_))
 go_ret
 exact ⟨kE, by exact kB1 HB.out GE101.out⟩

/-! ### tunnel_related: function 26 -/
def tunnel_related.f (b0 : Bool) (b1 : Int) (b2 : Int) (d0 : Bool) (d1 : Int) (d2 : Int) : Option (Bool) := (address_Valid.f b0 b1 b2).bind fun t104 => (if t104 = true then ((address_Valid.f d0 d1 d2).bind fun t105 => (if t105 = true then (some (b0 == d0)) else (some false))) else (some false))
set_option maxHeartbeats 8000000 in
set_option maxRecDepth 100000 in
theorem tunnel_related.calls (b0 : Bool) (b1 : Int) (b2 : Int) (d0 : Bool) (d1 : Int) (d2 : Int) (r : Bool) (w : World) (h : tunnel_related.f b0 b1 b2 d0 d1 d2 = some r) :
  Calls Tryd.prog 26 #[.agg #[.bool b0, .int .u64 b1, .int .u64 b2], .agg #[.bool d0, .int .u64 d1, .int .u64 d2]] w fun e w' => e = .returned (.bool r) ∧ Below w.heap.size w w' := by
 have hu24 := Tryd.underlying24
 have HB := As (Below.refl w.heap.size w)
 have H : ((address_Valid.f b0 b1 b2).bind fun t104 => (if t104 = true then ((address_Valid.f d0 d1 d2).bind fun t105 => (if t105 = true then (some (b0 == d0)) else (some false))) else (some false))) = some r := h
 clear h
 replace H := bS H
 obtain ⟨t104, A3, H⟩ := H
 by_cases c4 : t104 = true
 ·subst c4
  rw [if_pos rfl] at H
  replace H := bS H
  obtain ⟨t105, A5, H⟩ := H
  by_cases c6 : t105 = true
  ·subst c6
   rw [if_pos rfl] at H
   obtain rfl := Option.some.inj H
   go_enter Tryd.func26, Tryd.ntmps26
   go_wp2_with (first | ((with_reducible refine gate_dst (N := 2) rfl ?_); refine box_event rfl (N := 2) rfl (cs := #[.bool b0, .int .u64 b1, .int .u64 b2]) (t := 24) kG ?_; intro gb102 hg w7 hbox hb; have BK102 := As (hbox); have GW102 := As (gS hg (below_size (kB HB.out))); have GE102 := As (gS hg (below_size (kB HB.out))); replace HB := As (below_step (kB HB.out) hb); clear hb hbox hg) | ((with_reducible refine gate_dst (N := 3) rfl ?_); refine box_event rfl (N := 3) rfl (cs := #[.bool d0, .int .u64 d1, .int .u64 d2]) (t := 24) kG ?_; intro gb103 hg w8 hbox hb; have BK103 := As (hbox); have GW103 := As (gS hg (below_size (kB1 HB.out GE102.out))); have GE103 := As (gS hg (below_size (kB1 HB.out GE102.out))); replace HB := As (below_step (kB1 HB.out GE102.out) hb); have NB102_103 := As (gN hg (blk_lt (kb BK102.out))); have NB103_102 := As (gM hg (blk_lt (kb BK102.out))); replace BK102 := As (blk_below (kb BK102.out) hb); clear hb hbox hg; have hnb9 := NB102_103.out; have hnc9 := NB103_102.out; have hcz10_0 := cells_3 BK102.out; have hfz10_0 := fun j_ => blk_frozen BK102.out j_) | ((with_reducible refine gate_callee (f := 53) rfl ?_); refine goesL_ (some 6) rfl rfl Tryd.func53 (by kernel_rfl) rfl #[.agg #[.bool b0, .int .u64 b1, .int .u64 b2]] rfl kA ?_; (with_reducible refine (address_Valid.calls b0 b1 b2 true _ A3.out).mono ?_); rintro e w11 ⟨rfl, hb⟩; refine ⟨_, rfl, ?_⟩; replace BK102 := As (blk_below (kb BK102.out) hb); replace BK103 := As (blk_below (kb BK103.out) hb); replace HB := As (below_step (kB2 HB.out GE102.out GE103.out) hb); (try clear hb); have hcz12_0 := cells_3 BK103.out; have hfz12_0 := fun j_ => blk_frozen BK103.out j_) | (go_at_call 53; (with_reducible refine (address_Valid.calls d0 d1 d2 true _ A5.out).mono ?_); rintro e w13 ⟨rfl, hb⟩; replace BK102 := As (blk_below (kb BK102.out) hb); replace BK103 := As (blk_below (kb BK103.out) hb); replace HB := As (below_step (kB2 HB.out GE102.out GE103.out) hb); (try clear hb); have hcz14_0 := cells_3 BK102.out; have hfz14_0 := fun j_ => blk_frozen BK102.out j_; have hcz15_0 := cells_3 BK103.out; have hfz15_0 := fun j_ => blk_frozen BK103.out j_))
   go_ret
   exact ⟨kE, by exact kB2 HB.out GE102.out GE103.out⟩
  replace c6 := Bool.eq_false_iff.mpr c6
  subst c6
  rw [if_neg (show ¬ (false = true) by decide)] at H
  obtain rfl := Option.some.inj H
  go_enter Tryd.func26, Tryd.ntmps26
  go_wp2_with (first | ((with_reducible refine gate_dst (N := 2) rfl ?_); refine box_event rfl (N := 2) rfl (cs := #[.bool b0, .int .u64 b1, .int .u64 b2]) (t := 24) kG ?_; intro gb102 hg w16 hbox hb; have BK102 := As (hbox); have GW102 := As (gS hg (below_size (kB HB.out))); have GE102 := As (gS hg (below_size (kB HB.out))); replace HB := As (below_step (kB HB.out) hb); clear hb hbox hg) | ((with_reducible refine gate_dst (N := 3) rfl ?_); refine box_event rfl (N := 3) rfl (cs := #[.bool d0, .int .u64 d1, .int .u64 d2]) (t := 24) kG ?_; intro gb103 hg w17 hbox hb; have BK103 := As (hbox); have GW103 := As (gS hg (below_size (kB1 HB.out GE102.out))); have GE103 := As (gS hg (below_size (kB1 HB.out GE102.out))); replace HB := As (below_step (kB1 HB.out GE102.out) hb); have NB102_103 := As (gN hg (blk_lt (kb BK102.out))); have NB103_102 := As (gM hg (blk_lt (kb BK102.out))); replace BK102 := As (blk_below (kb BK102.out) hb); clear hb hbox hg; have hnb18 := NB102_103.out; have hnc18 := NB103_102.out; have hcz19_0 := cells_3 BK102.out; have hfz19_0 := fun j_ => blk_frozen BK102.out j_) | ((with_reducible refine gate_callee (f := 53) rfl ?_); refine goesL_ (some 6) rfl rfl Tryd.func53 (by kernel_rfl) rfl #[.agg #[.bool b0, .int .u64 b1, .int .u64 b2]] rfl kA ?_; (with_reducible refine (address_Valid.calls b0 b1 b2 true _ A3.out).mono ?_); rintro e w20 ⟨rfl, hb⟩; refine ⟨_, rfl, ?_⟩; replace BK102 := As (blk_below (kb BK102.out) hb); replace BK103 := As (blk_below (kb BK103.out) hb); replace HB := As (below_step (kB2 HB.out GE102.out GE103.out) hb); (try clear hb); have hcz21_0 := cells_3 BK103.out; have hfz21_0 := fun j_ => blk_frozen BK103.out j_) | (go_at_call 53; (with_reducible refine (address_Valid.calls d0 d1 d2 false _ A5.out).mono ?_); rintro e w22 ⟨rfl, hb⟩; replace BK102 := As (blk_below (kb BK102.out) hb); replace BK103 := As (blk_below (kb BK103.out) hb); replace HB := As (below_step (kB2 HB.out GE102.out GE103.out) hb); (try clear hb)))
  go_ret
  exact ⟨kE, by exact kB2 HB.out GE102.out GE103.out⟩
 replace c4 := Bool.eq_false_iff.mpr c4
 subst c4
 rw [if_neg (show ¬ (false = true) by decide)] at H
 obtain rfl := Option.some.inj H
 go_enter Tryd.func26, Tryd.ntmps26
 go_wp2_with (first | ((with_reducible refine gate_dst (N := 2) rfl ?_); refine box_event rfl (N := 2) rfl (cs := #[.bool b0, .int .u64 b1, .int .u64 b2]) (t := 24) kG ?_; intro gb102 hg w23 hbox hb; have BK102 := As (hbox); have GW102 := As (gS hg (below_size (kB HB.out))); have GE102 := As (gS hg (below_size (kB HB.out))); replace HB := As (below_step (kB HB.out) hb); clear hb hbox hg) | ((with_reducible refine gate_dst (N := 3) rfl ?_); refine box_event rfl (N := 3) rfl (cs := #[.bool d0, .int .u64 d1, .int .u64 d2]) (t := 24) kG ?_; intro gb103 hg w24 hbox hb; have BK103 := As (hbox); have GW103 := As (gS hg (below_size (kB1 HB.out GE102.out))); have GE103 := As (gS hg (below_size (kB1 HB.out GE102.out))); replace HB := As (below_step (kB1 HB.out GE102.out) hb); have NB102_103 := As (gN hg (blk_lt (kb BK102.out))); have NB103_102 := As (gM hg (blk_lt (kb BK102.out))); replace BK102 := As (blk_below (kb BK102.out) hb); clear hb hbox hg; have hnb25 := NB102_103.out; have hnc25 := NB103_102.out; have hcz26_0 := cells_3 BK102.out; have hfz26_0 := fun j_ => blk_frozen BK102.out j_) | ((with_reducible refine gate_callee (f := 53) rfl ?_); refine goesL_ (some 6) rfl rfl Tryd.func53 (by kernel_rfl) rfl #[.agg #[.bool b0, .int .u64 b1, .int .u64 b2]] rfl kA ?_; (with_reducible refine (address_Valid.calls b0 b1 b2 false _ A3.out).mono ?_); rintro e w27 ⟨rfl, hb⟩; refine ⟨_, rfl, ?_⟩; replace BK102 := As (blk_below (kb BK102.out) hb); replace BK103 := As (blk_below (kb BK103.out) hb); replace HB := As (below_step (kB2 HB.out GE102.out GE103.out) hb); (try clear hb)))
 go_ret
 exact ⟨kE, by exact kB2 HB.out GE102.out GE103.out⟩

/-! ### field_valid: function 54 -/
def field_valid.f (a0 : Int) : Option (Bool) := if a0 ≥ 1 then (some (decide (a0 ≤ 7))) else (some false)
set_option maxHeartbeats 8000000 in
set_option maxRecDepth 100000 in
theorem field_valid.calls (a0 : Int) (r : Bool) (w : World) (h : field_valid.f a0 = some r) :
  Calls Tryd.prog 54 #[.int .i64 a0] w fun e w' => e = .returned (.bool r) ∧ Drawn0 w w' := by
 have H : (if a0 ≥ 1 then (some (decide (a0 ≤ 7))) else (some false)) = some r := h
 clear h
 by_cases c2 : a0 ≥ 1
 ·rw [if_pos c2] at H
  have c2b0 : decide (1 ≤ a0) = true := decide_eq_true c2
  clear c2
  obtain rfl := Option.some.inj H
  go_enter Tryd.func54, Tryd.ntmps54
  go_wp2
  go_ret
  exact ⟨by first | rfl | (simp; done) | (simp [*]; done), by repeat (first | exact Drawn0.refl _ | apply Drawn0.step)⟩
 rw [if_neg c2] at H
 have c2b0 : decide (1 ≤ a0) = false := decide_eq_false c2
 clear c2
 obtain rfl := Option.some.inj H
 go_enter Tryd.func54, Tryd.ntmps54
 go_wp2
 go_ret
 exact ⟨by first | rfl | (simp; done) | (simp [*]; done), by repeat (first | exact Drawn0.refl _ | apply Drawn0.step)⟩

/-! ### field_Put: function 27 -/
mutual
def field_Put.j0 : Nat → Int → Int → Bool → Option (ByteArray)
 | 0, _, _, _ => none
 | k + 1, x0, x1, x20 => if x20 = true then (some (⟨#[]⟩ : ByteArray)) else (if 0 ≤ x1 then (if (x1 : Int).toNat ≤ 281474976710656 then (field_Put.l0 k x0 x1 (List.replicate (x1 : Int).toNat 0) x1 0) else (none)) else (none))
def field_Put.l0 : Nat → Int → Int → List Int → Int → Int → Option (ByteArray)
 | 0, _, _, _, _, _ => none
 | k + 1, x0, x1, x5, x23, x24 => if x24 < x23 then (if 0 ≤ (wrap64 (8 * x24)) then (if 0 ≤ (wrap64 ((wrap64 (x1 - 1)) - x24)) then (if (wrap64 ((wrap64 (x1 - 1)) - x24)) < (x5.length : Int) then (field_Put.l0 k x0 x1 (x5.set ((wrap64 ((wrap64 (x1 - 1)) - x24)) : Int).toNat ((shr .i64 x0 (wrap64 (8 * x24))) % 256)) x23 (wrap64 (x24 + 1))) else (none)) else (none)) else (none)) else (some (strOfNums x5))
end
def field_Put.f (k : Nat) (a0 : Int) (a1 : Int) : Option (ByteArray) := (field_valid.f a1).bind fun t106 => (if t106 = true then (if a0 < 0 then (field_Put.j0 k a0 a1 true) else (if 0 ≤ (wrap64 (8 * a1)) then (field_Put.j0 k a0 a1 ((shr .i64 a0 (wrap64 (8 * a1))) != 0)) else (none))) else (field_Put.j0 k a0 a1 true))
theorem field_Put.mono_l : ∀ k, (∀ y0 y1 y2, LeO (field_Put.j0 k y0 y1 y2) (field_Put.j0 (k + 1) y0 y1 y2)) ∧ (∀ y0 y1 y2 y3 y4, LeO (field_Put.l0 k y0 y1 y2 y3 y4) (field_Put.l0 (k + 1) y0 y1 y2 y3 y4))
 | 0 => ⟨fun _ _ _ r h => by simp [field_Put.j0] at h, fun _ _ _ _ _ r h => by simp [field_Put.l0] at h⟩
 | k + 1 => by
  obtain ⟨ih0, ih1⟩ := field_Put.mono_l k
  refine ⟨?_, ?_⟩
  ·intro y0 y1 y2
   unfold field_Put.j0
   repeat' first | with_reducible first | apply ih0 | apply ih1 | apply LeO.refl | apply LeO.none | refine LeO.ite ?_ ?_ | refine LeO.bind ?_ (fun _ => ?_)
  intro y0 y1 y2 y3 y4
  unfold field_Put.l0
  repeat' first | with_reducible first | apply ih0 | apply ih1 | apply LeO.refl | apply LeO.none | refine LeO.ite ?_ ?_ | refine LeO.bind ?_ (fun _ => ?_)
theorem field_Put.mono : ∀ a0 a1 k, LeO (field_Put.f k a0 a1) (field_Put.f (k + 1) a0 a1) := by
 intro a0 a1 k
 obtain ⟨ih0, ih1⟩ := field_Put.mono_l k
 unfold field_Put.f
 repeat' first | with_reducible first | apply ih0 | apply ih1 | apply LeO.refl | apply LeO.none | refine LeO.ite ?_ ?_ | refine LeO.bind ?_ (fun _ => ?_)
set_option maxHeartbeats 8000000 in
set_option maxRecDepth 100000 in
theorem field_Put.calls (k : Nat) (a0 : Int) (a1 : Int) (r : ByteArray) (w : World) (h : field_Put.f k a0 a1 = some r) :
  Calls Tryd.prog 27 #[.int .i64 a0, .int .i64 a1] w fun e w' => e = .returned (.string r) ∧ Below w.heap.size w w' := by
 have HB := As (Below.refl w.heap.size w)
 have H : ((field_valid.f a1).bind fun t106 => (if t106 = true then (if a0 < 0 then (field_Put.j0 k a0 a1 true) else (if 0 ≤ (wrap64 (8 * a1)) then (field_Put.j0 k a0 a1 ((shr .i64 a0 (wrap64 (8 * a1))) != 0)) else (none))) else (field_Put.j0 k a0 a1 true))) = some r := h
 clear h
 have HC3 := As H
 clear H
 go_enter Tryd.func27, Tryd.ntmps27
 go_upto_region 1 with (fail)
 go_cut [20] (fun v20 wc => ∃ (kq : Nat) (x20_2 : Bool), v20 = .bool x20_2 ∧ Aside0 (field_Put.j0 kq a0 a1 x20_2 = some r) ∧ Aside0 (kq ≤ k) ∧ Aside0 (Below w.heap.size w wc))
 case first =>
  have H := HC3.out
  clear HC3
  replace H := bS H
  obtain ⟨t106, A4, H⟩ := H
  by_cases c5 : t106 = true
  ·subst c5
   rw [if_pos rfl] at H
   by_cases c6 : a0 < 0
   ·rw [if_pos c6] at H
    have c6b0 : decide (a0 < 0) = true := decide_eq_true c6
    clear c6
    (first | rw [c6b0] | (simp only [i64_w, i32_w]; rw [c6b0]) | skip)
    have H' := As H
    clear H
    go_wp2_with (first | ((with_reducible refine gate_callee (f := 54) rfl ?_); refine goesL_ (some 8) rfl rfl Tryd.func54 (by kernel_rfl) rfl #[.int .i64 a1] rfl kA ?_; (with_reducible refine (field_valid.calls a1 true _ A4.out).mono ?_); rintro e w' ⟨rfl, ⟨nd, rfl⟩⟩; refine ⟨_, rfl, ?_⟩))
    go_meet
    case rel => exact ⟨_, (true), kS, H', ⟨by first | omega | exact Nat.le_refl _⟩, ⟨kB HB.out⟩⟩
   rw [if_neg c6] at H
   have c6b0 : decide (a0 < 0) = false := decide_eq_false c6
   clear c6
   (first | rw [c6b0] | (simp only [i64_w, i32_w]; rw [c6b0]) | skip)
   obtain ⟨ji7, hji7⟩ : ∃ j_ : Int, (wrap64 (8 * a1)) = j_ := ⟨_, rfl⟩
   replace H : (if 0 ≤ (ji7) then (field_Put.j0 k a0 a1 ((shr .i64 a0 (ji7)) != 0)) else (none)) = some r := by first | (rw [hji7] at H; exact H) | (simp only [hji7] at H ⊢; exact H)
   (try rw [hji7] at A4)
   have hji7w : (IntKind.i64.wrap (8 * a1)) = ji7 := (i64_w _).trans hji7
   replace H := iS H
   obtain ⟨c8, H⟩ := H
   have c8b0 := eq_true c8
   have c8b1 := decide_eq_true c8
   clear c8
   obtain ⟨ji9, hji9⟩ : ∃ j_ : Int, (shr .i64 a0 (ji7)) = j_ := ⟨_, rfl⟩
   replace H : (field_Put.j0 k a0 a1 ((ji9) != 0)) = some r := by first | (rw [hji9] at H; exact H) | (simp only [hji9] at H ⊢; exact H)
   (try rw [hji9] at A4)
   have hji9_ : (a0 / 2 ^ min (ji7).toNat 64) = ji9 := hji9
   have hji9z : (ji7) ≤ 64 → (a0 / 2 ^ (ji7).toNat) = ji9 := shr_small hji9
   have H' := As H
   clear H
   go_wp2_with (first | ((with_reducible refine gate_callee (f := 54) rfl ?_); refine goesL_ (some 8) rfl rfl Tryd.func54 (by kernel_rfl) rfl #[.int .i64 a1] rfl kA ?_; (with_reducible refine (field_valid.calls a1 true _ A4.out).mono ?_); rintro e w' ⟨rfl, ⟨nd, rfl⟩⟩; refine ⟨_, rfl, ?_⟩))
   go_meet
   case rel => exact ⟨_, (((ji9) != 0)), (by first | rfl | (simp; done) | (simp only [← hji9] <;> (first | rfl | simp)) | (simp [*]; done)), H', ⟨by first | omega | exact Nat.le_refl _⟩, ⟨kB HB.out⟩⟩
  replace c5 := Bool.eq_false_iff.mpr c5
  subst c5
  rw [if_neg (show ¬ (false = true) by decide)] at H
  have H' := As H
  clear H
  go_wp2_with (first | ((with_reducible refine gate_callee (f := 54) rfl ?_); refine goesL_ (some 8) rfl rfl Tryd.func54 (by kernel_rfl) rfl #[.int .i64 a1] rfl kA ?_; (with_reducible refine (field_valid.calls a1 false _ A4.out).mono ?_); rintro e w' ⟨rfl, ⟨nd, rfl⟩⟩; refine ⟨_, rfl, ?_⟩))
  go_meet
  case rel => exact ⟨_, (true), kS, H', ⟨by first | omega | exact Nat.le_refl _⟩, ⟨kB HB.out⟩⟩
 clear HC3
 obtain ⟨kq, x20_2, rfl, HA, HJ2, HB⟩ := hcut
 cases kq with
 | zero => exact absurd HA.out (by simp [field_Put.j0])
 | succ kj2 =>
  have H := HA.out
  clear HA
  simp only [field_Put.j0] at H
  by_cases c10 : x20_2 = true
  ·subst c10
   rw [if_pos rfl] at H
   obtain rfl := Option.some.inj H
   go_wp2
   go_ret
   exact ⟨kE, by exact kB HB.out⟩
  replace c10 := Bool.eq_false_iff.mpr c10
  subst c10
  rw [if_neg (show ¬ (false = true) by decide)] at H
  replace H := iS H
  obtain ⟨c11, H⟩ := H
  have c11b0 := eq_true c11
  have c11b1 := decide_eq_true c11
  clear c11
  replace H := iS H
  obtain ⟨c12, H⟩ := H
  have c12b0 := eq_true c12
  have c12b1 := decide_eq_true c12
  clear c12
  obtain ⟨y107, hy107⟩ : ∃ y_ : List Int, y_ = (List.replicate (a1 : Int).toNat 0) := ⟨_, rfl⟩
  replace H : (field_Put.l0 kj2 a0 a1 y107 a1 0) = some r := by first | (rw [hy107]; with_reducible exact H) | (have H2_ := (Option.bind_some _ _).symm.trans H; rw [hy107]; with_reducible exact H2_) | (have H2_ := (Option.bind_some _ _).symm.trans H; with_reducible exact H2_) | with_reducible exact H | (rw [hy107]; exact H) | exact H
  have Ny107 := As hy107
  clear hy107
  have H' := As H
  clear H
  go_wp2_with (first | ((with_reducible refine gate_dst (N := 22) rfl ?_); refine Kd.R_make (Kd.int .u8) _ 5 rfl (N := 22) rfl 47 _ _ rfl a1 rfl rfl Tryd.underlying47 (.int .u8 0) 1 info5 rfl (by decide) (by omega) 0 (ok := fun _ => True) (okp := fun _ => True) rfl (fun _ hk => hk) trivial (of_decide_eq_true (by first | (with_reducible assumption) | assumption)) (Nat.le_trans (Nat.mul_le_mul_right _ (of_decide_eq_true (by first | (with_reducible assumption) | assumption) : a1.toNat ≤ 281474976710656)) (by omega)) (Below.refl _ _) (Nat.le_refl _) ?_; intro v108 w13 ho14 hb hg_ hnew_; clear hg_ hnew_; (first | rw [← Ny107.out] at ho14 | (simp only [Int.reduceToNat] at ho14; rw [← Ny107.out] at ho14)); have HO109 := As (Kd.R_lower ho14 (below_size (kB HB.out))); replace HB := As (below_step (kB HB.out) hb); clear hb ho14))
  go_loopg [24] kj2 (fun kq v24 w' => ∃ (x5_2 : List Int) (x24_2 : Int), v24 = .int .i64 x24_2 ∧ Aside0 (field_Put.l0 kq a0 a1 x5_2 a1 x24_2 = some r) ∧ Aside0 (kq ≤ kj2) ∧ Aside0 (Kd.R (Kd.int .u8) 5 w' w.heap.size (fun _ => True) v108 x5_2) ∧ Aside0 (Below w.heap.size w w'))
  case atStart => exact ⟨(y107), (0), kS, H', ⟨Nat.le_refl _⟩, ⟨by (with_reducible repeat (first | apply Kd.R_alloc | apply Kd.R_drewN | apply Kd.R_drew)); exact HO109.out⟩, ⟨kB HB.out⟩⟩
  clear H'
  try clear c10
  try clear c11
  try clear c11b0
  try clear c11b1
  try clear c12
  try clear c12b0
  try clear c12b1
  obtain ⟨x5_2, x24_2, rfl, HA, HK2, HO_5, HB⟩ := hrel
  cases gk with
  | zero => exact absurd HA.out (by simp [field_Put.l0])
  | succ k2 =>
   have H := HA.out
   clear HA
   simp only [field_Put.l0] at H
   by_cases c15 : x24_2 < a1
   ·rw [if_pos c15] at H
    have c15b0 : decide (x24_2 < a1) = true := decide_eq_true c15
    clear c15
    obtain ⟨ji16, hji16⟩ : ∃ j_ : Int, (wrap64 (8 * x24_2)) = j_ := ⟨_, rfl⟩
    replace H : (if 0 ≤ (ji16) then (if 0 ≤ (wrap64 ((wrap64 (a1 - 1)) - x24_2)) then (if (wrap64 ((wrap64 (a1 - 1)) - x24_2)) < (x5_2.length : Int) then (field_Put.l0 k2 a0 a1 (x5_2.set ((wrap64 ((wrap64 (a1 - 1)) - x24_2)) : Int).toNat ((shr .i64 a0 (ji16)) % 256)) a1 (wrap64 (x24_2 + 1))) else (none)) else (none)) else (none)) = some r := by first | (rw [hji16] at H; exact H) | (simp only [hji16] at H ⊢; exact H)
    have hji16w : (IntKind.i64.wrap (8 * x24_2)) = ji16 := (i64_w _).trans hji16
    replace H := iS H
    obtain ⟨c17, H⟩ := H
    have c17b0 := eq_true c17
    have c17b1 := decide_eq_true c17
    clear c17
    obtain ⟨ji18, hji18⟩ : ∃ j_ : Int, (shr .i64 a0 (ji16)) = j_ := ⟨_, rfl⟩
    replace H : (if 0 ≤ (wrap64 ((wrap64 (a1 - 1)) - x24_2)) then (if (wrap64 ((wrap64 (a1 - 1)) - x24_2)) < (x5_2.length : Int) then (field_Put.l0 k2 a0 a1 (x5_2.set ((wrap64 ((wrap64 (a1 - 1)) - x24_2)) : Int).toNat ((ji18) % 256)) a1 (wrap64 (x24_2 + 1))) else (none)) else (none)) = some r := by first | (rw [hji18] at H; exact H) | (simp only [hji18] at H ⊢; exact H)
    have hji18_ : (a0 / 2 ^ min (ji16).toNat 64) = ji18 := hji18
    have hji18z : (ji16) ≤ 64 → (a0 / 2 ^ (ji16).toNat) = ji18 := shr_small hji18
    obtain ⟨ji19, hji19⟩ : ∃ j_ : Int, (wrap64 ((wrap64 (a1 - 1)) - x24_2)) = j_ := ⟨_, rfl⟩
    replace H : (if 0 ≤ (ji19) then (if (ji19) < (x5_2.length : Int) then (field_Put.l0 k2 a0 a1 (x5_2.set ((ji19) : Int).toNat ((ji18) % 256)) a1 (wrap64 (x24_2 + 1))) else (none)) else (none)) = some r := by first | (rw [hji19] at H; exact H) | (simp only [hji19] at H ⊢; exact H)
    have hji19w : (IntKind.i64.wrap ((wrap64 (a1 - 1)) - x24_2)) = ji19 := (i64_w _).trans hji19
    replace H := iS H
    obtain ⟨c20, H⟩ := H
    have c20b0 := decide_eq_true c20
    clear c20
    replace H := iS H
    obtain ⟨c21, H⟩ := H
    have c21b0 := decide_eq_true c21
    clear c21
    obtain ⟨y110, hy110⟩ : ∃ y_ : List Int, y_ = (x5_2.set ((ji19) : Int).toNat ((ji18) % 256)) := ⟨_, rfl⟩
    replace H : (field_Put.l0 k2 a0 a1 y110 a1 (wrap64 (x24_2 + 1))) = some r := by first | (rw [hy110]; with_reducible exact H) | (have H2_ := (Option.bind_some _ _).symm.trans H; rw [hy110]; with_reducible exact H2_) | (have H2_ := (Option.bind_some _ _).symm.trans H; with_reducible exact H2_) | with_reducible exact H | (rw [hy110]; exact H) | exact H
    have Ny110 := As hy110
    clear hy110
    have H' := As H
    clear H
    have p22 : 0 ≤ ((ji19) : Int) := of_decide_eq_true (by first | (with_reducible assumption) | assumption)
    have q22 : ((ji19) : Int) < ((x5_2.length : Int) : Int) := of_decide_eq_true (by first | (with_reducible assumption) | assumption)
    obtain ⟨go22, co22, eo22, gb22, gl22, cl22, HG22⟩ := Kd.R_form HO_5.out (by omega)
    (first | cases eo22 | (injection eo22 with ea_ en_ ec_; (first | subst ea_ | (injection ea_ with ea_; subst ea_)); subst ec_; clear en_))
    have GB22 := As gb22
    have GG22 := As HG22
    clear gb22 gl22 HG22
    obtain ⟨hx22_0, hf22_0⟩ := Kd.R_celln 0 HO_5.out ((ji19) : Int) p22 q22
    replace p22 := eq_true p22
    replace q22 := eq_true q22
    have HP23 := Kd.R_putg HO_5.out ((ji19) : Int) ((ji18) % 256)
    go_wp2_with (first | ((with_reducible refine gate_store (t := 5) (p := 37) rfl ?_); refine store_event (t := 5) (p := 37) (v := ?vo_w24) (w1 := (wr.setCell ⟨go22, ((ji19) : Int).toNat, none⟩ (.int .u8 ((ji18) % 256)))) ?hg ?ho ?hn ?hr ?_; (case ho => rfl); (case hg => rfl); (case hn => rfl); (case hr => first | (go_simp; done) | (go_simp; rfl)); intro w24 hw; have hg : wr.grownBy w24 (some go22) := (by rw [hw]; exact HP23.2); have hp_ : Kd.R (Kd.int .u8) 5 w24 w.heap.size (fun _ => True) (.slice (some ⟨go22, 0, none⟩) x5_2.length co22) y110 := (by rw [hw, Ny110.out]; exact HP23.1); clear HP23; replace HO_5 := As (hp_); replace HB := As ((by rw [hw]; exact below_set (HB.out) GB22.out : Below w.heap.size w w24)); clear hg hw hp_))
    go_roundg k2
    case measure => have := HJ2.out; have := HK2.out; omega
    case rel => exact ⟨(y110), (wrap64 (x24_2 + 1)), kS, H', ⟨by have := HJ2.out; have := HK2.out; omega⟩, ⟨by (with_reducible repeat (first | apply Kd.R_alloc | apply Kd.R_drewN | apply Kd.R_drew)); exact HO_5.out⟩, ⟨kB HB.out⟩⟩
   rw [if_neg c15] at H
   have c15b0 : decide (x24_2 < a1) = false := decide_eq_false c15
   clear c15
   obtain rfl := Option.some.inj H
   have hcv25 := own_string (P := Tryd.prog) Tryd.underlying47 Tryd.underlying5 Tryd.underlying9 (Kd.own_of_R HO_5.out)
   go_wp2
   go_ret
   exact ⟨kE, by exact kB HB.out⟩

/-! ### tunnel_wrapped: function 28 -/
def tunnel_wrapped.f (a0_0 : Bool) (a0_1 : Int) (a0_2 : Int) (a1_0 : Bool) (a1_1 : Int) (a1_2 : Int) (a2 : Int) (a3 : ByteArray) : Option (Bool × Int × Int × Bool × Int × Int × Int × Int × ByteArray × Int) := if (a3.size : Int) > 65000 then (some (false, 0, 0, false, 0, 0, 0, 0, (⟨#[]⟩ : ByteArray), 3)) else (some (a0_0, a0_1, a0_2, a1_0, a1_1, a1_2, a2, 64, a3, 0))
set_option maxHeartbeats 8000000 in
set_option maxRecDepth 100000 in
theorem tunnel_wrapped.calls (a0_0 : Bool) (a0_1 : Int) (a0_2 : Int) (a1_0 : Bool) (a1_1 : Int) (a1_2 : Int) (a2 : Int) (a3 : ByteArray) (r1 : Bool) (r2 : Int) (r3 : Int) (r4 : Bool) (r5 : Int) (r6 : Int) (r7 : Int) (r8 : Int) (r9 : ByteArray) (r10 : Int) (w : World) (h : tunnel_wrapped.f a0_0 a0_1 a0_2 a1_0 a1_1 a1_2 a2 a3 = some (r1, r2, r3, r4, r5, r6, r7, r8, r9, r10)) :
  Calls Tryd.prog 28 #[.agg #[.bool a0_0, .int .u64 a0_1, .int .u64 a0_2], .agg #[.bool a1_0, .int .u64 a1_1, .int .u64 a1_2], .int .i64 a2, .string a3] w fun e w' => e = .returned (.tuple #[.agg #[.bool r1, .int .u64 r2, .int .u64 r3, .bool r4, .int .u64 r5, .int .u64 r6, .int .i64 r7, .int .i64 r8, .string r9], .int .i64 r10]) ∧ Below w.heap.size w w' := by
 have hu24 := Tryd.underlying24
 have hu30 := Tryd.underlying30
 have HB := As (Below.refl w.heap.size w)
 have H : (if (a3.size : Int) > 65000 then (some (false, 0, 0, false, 0, 0, 0, 0, (⟨#[]⟩ : ByteArray), 3)) else (some (a0_0, a0_1, a0_2, a1_0, a1_1, a1_2, a2, 64, a3, 0))) = some (r1, r2, r3, r4, r5, r6, r7, r8, r9, r10) := h
 clear h
 by_cases c5 : (a3.size : Int) > 65000
 ·rw [if_pos c5] at H
  have c5b0 : decide (65000 < (a3.size : Int)) = true := decide_eq_true c5
  have c5b1 : decide (65000 < a3.size) = true := decide_eq_true (by omega)
  clear c5
  simp only [Option.some.injEq, Prod.mk.injEq] at H
  obtain ⟨rfl, rfl, rfl, rfl, rfl, rfl, rfl, rfl, rfl, rfl⟩ := H
  go_enter Tryd.func28, Tryd.ntmps28
  go_wp2_with (first | ((with_reducible refine gate_dst (N := 4) rfl ?_); refine box_event rfl (N := 4) rfl (cs := #[.bool a0_0, .int .u64 a0_1, .int .u64 a0_2]) (t := 24) kG ?_; intro gb111 hg w6 hbox hb; have BK111 := As (hbox); have GW111 := As (gS hg (below_size (kB HB.out))); have GE111 := As (gS hg (below_size (kB HB.out))); replace HB := As (below_step (kB HB.out) hb); clear hb hbox hg) | ((with_reducible refine gate_dst (N := 5) rfl ?_); refine box_event rfl (N := 5) rfl (cs := #[.bool a1_0, .int .u64 a1_1, .int .u64 a1_2]) (t := 24) kG ?_; intro gb112 hg w7 hbox hb; have BK112 := As (hbox); have GW112 := As (gS hg (below_size (kB1 HB.out GE111.out))); have GE112 := As (gS hg (below_size (kB1 HB.out GE111.out))); replace HB := As (below_step (kB1 HB.out GE111.out) hb); have NB111_112 := As (gN hg (blk_lt (kb BK111.out))); have NB112_111 := As (gM hg (blk_lt (kb BK111.out))); replace BK111 := As (blk_below (kb BK111.out) hb); clear hb hbox hg) | ((with_reducible refine gate_dst (N := 8) rfl ?_); refine box_event rfl (N := 8) rfl (cs := #[.bool false, .int .u64 0, .int .u64 0, .bool false, .int .u64 0, .int .u64 0, .int .i64 0, .int .i64 0, .string (⟨#[]⟩ : ByteArray)]) (t := 30) kG ?_; intro gb113 hg w8 hbox hb; have BK113 := As (hbox); have GW113 := As (gS hg (below_size (kB2 HB.out GE111.out GE112.out))); have GE113 := As (gS hg (below_size (kB2 HB.out GE111.out GE112.out))); replace HB := As (below_step (kB2 HB.out GE111.out GE112.out) hb); have NB111_113 := As (gN hg (blk_lt (kb BK111.out))); have NB113_111 := As (gM hg (blk_lt (kb BK111.out))); replace BK111 := As (blk_below (kb BK111.out) hb); have NB112_113 := As (gN hg (blk_lt (kb BK112.out))); have NB113_112 := As (gM hg (blk_lt (kb BK112.out))); replace BK112 := As (blk_below (kb BK112.out) hb); clear hb hbox hg) | ((with_reducible refine gate_store (t := 30) (p := 8) rfl ?_); refine store_rowev_9 gb113 (.bool false) (.int .u64 0) (.int .u64 0) (.bool false) (.int .u64 0) (.int .u64 0) (.int .i64 0) (.int .i64 0) (.string (⟨#[]⟩ : ByteArray)) rfl (t := 30) (p := 8) (v := _) rfl rfl rfl rfl (t' := 30) (kb BK113.out) (by rfl) (by kernel_rfl) (by rfl) ?_))
  refine bodyPost_ret (results_ct rfl _ _ gb113 30 #[.bool false, .int .u64 0, .int .u64 0, .bool false, .int .u64 0, .int .u64 0, .int .i64 0, .int .i64 0, .string (⟨#[]⟩ : ByteArray)] (0, 0) _ rfl (by refine kb ?_; exact blk_all_9 (kb BK113.out) (by rfl)) Tryd.underlying30 rfl (by kernel_rfl)) rfl ?_
  exact ⟨kE, by exact kB3 HB.out GE111.out GE112.out GE113.out⟩
 rw [if_neg c5] at H
 have c5b0 : decide (65000 < (a3.size : Int)) = false := decide_eq_false c5
 have c5b1 : decide (65000 < a3.size) = false := decide_eq_false (by omega)
 clear c5
 simp only [Option.some.injEq, Prod.mk.injEq] at H
 obtain ⟨rfl, rfl, rfl, rfl, rfl, rfl, rfl, rfl, rfl, rfl⟩ := H
 go_enter Tryd.func28, Tryd.ntmps28
 go_wp2_with (first | ((with_reducible refine gate_dst (N := 4) rfl ?_); refine box_event rfl (N := 4) rfl (cs := #[.bool a0_0, .int .u64 a0_1, .int .u64 a0_2]) (t := 24) kG ?_; intro gb111 hg w9 hbox hb; have BK111 := As (hbox); have GW111 := As (gS hg (below_size (kB HB.out))); have GE111 := As (gS hg (below_size (kB HB.out))); replace HB := As (below_step (kB HB.out) hb); clear hb hbox hg) | ((with_reducible refine gate_dst (N := 5) rfl ?_); refine box_event rfl (N := 5) rfl (cs := #[.bool a1_0, .int .u64 a1_1, .int .u64 a1_2]) (t := 24) kG ?_; intro gb112 hg w10 hbox hb; have BK112 := As (hbox); have GW112 := As (gS hg (below_size (kB1 HB.out GE111.out))); have GE112 := As (gS hg (below_size (kB1 HB.out GE111.out))); replace HB := As (below_step (kB1 HB.out GE111.out) hb); have NB111_112 := As (gN hg (blk_lt (kb BK111.out))); have NB112_111 := As (gM hg (blk_lt (kb BK111.out))); replace BK111 := As (blk_below (kb BK111.out) hb); clear hb hbox hg) | ((with_reducible refine gate_dst (N := 8) rfl ?_); refine box_event rfl (N := 8) rfl (cs := #[.bool false, .int .u64 0, .int .u64 0, .bool false, .int .u64 0, .int .u64 0, .int .i64 0, .int .i64 0, .string (⟨#[]⟩ : ByteArray)]) (t := 30) kG ?_; intro gb113 hg w11 hbox hb; have BK113 := As (hbox); have GW113 := As (gS hg (below_size (kB2 HB.out GE111.out GE112.out))); have GE113 := As (gS hg (below_size (kB2 HB.out GE111.out GE112.out))); replace HB := As (below_step (kB2 HB.out GE111.out GE112.out) hb); have NB111_113 := As (gN hg (blk_lt (kb BK111.out))); have NB113_111 := As (gM hg (blk_lt (kb BK111.out))); replace BK111 := As (blk_below (kb BK111.out) hb); have NB112_113 := As (gN hg (blk_lt (kb BK112.out))); have NB113_112 := As (gM hg (blk_lt (kb BK112.out))); replace BK112 := As (blk_below (kb BK112.out) hb); clear hb hbox hg; have hnb12 := NB111_112.out; have hnc12 := NB112_111.out; have hnb13 := NB111_113.out; have hnc13 := NB113_111.out; have hcz14_0 := cells_3 BK111.out; have hfz14_0 := fun j_ => blk_frozen BK111.out j_; have hnb15 := NB112_113.out; have hnc15 := NB113_112.out; have hcz16_0 := cells_3 BK112.out; have hfz16_0 := fun j_ => blk_frozen BK112.out j_) | ((with_reducible refine gate_store (t := 30) (p := 8) rfl ?_); refine store_rowev_9 gb113 (.bool a0_0) (.int .u64 a0_1) (.int .u64 a0_2) (.bool a1_0) (.int .u64 a1_1) (.int .u64 a1_2) (.int .i64 a2) (.int .i64 64) (.string a3) rfl (t := 30) (p := 8) (v := _) rfl rfl rfl rfl (t' := 30) (kb BK113.out) (by rfl) (by kernel_rfl) (by rfl) ?_))
 refine bodyPost_ret (results_ct rfl _ _ gb113 30 #[.bool a0_0, .int .u64 a0_1, .int .u64 a0_2, .bool a1_0, .int .u64 a1_1, .int .u64 a1_2, .int .i64 a2, .int .i64 64, .string a3] (0, 0) _ rfl (by refine kb ?_; exact blk_all_9 (kb BK113.out) (by rfl)) Tryd.underlying30 rfl (by kernel_rfl)) rfl ?_
 exact ⟨kE, by exact kB3 HB.out GE111.out GE112.out GE113.out⟩

/-! ### checksum_fold: function 55 -/
def checksum_fold.f (a0 : Int) : Option (Int) := if a0 > 65535 then (some (wrap64 (a0 - 65535))) else (some a0)
set_option maxHeartbeats 8000000 in
set_option maxRecDepth 100000 in
theorem checksum_fold.calls (a0 : Int) (r : Int) (w : World) (h : checksum_fold.f a0 = some r) :
  Calls Tryd.prog 55 #[.int .i64 a0] w fun e w' => e = .returned (.int .i64 r) ∧ Drawn0 w w' := by
 have H : (if a0 > 65535 then (some (wrap64 (a0 - 65535))) else (some a0)) = some r := h
 clear h
 by_cases c2 : a0 > 65535
 ·rw [if_pos c2] at H
  have c2b0 : decide (65535 < a0) = true := decide_eq_true c2
  clear c2
  obtain rfl := Option.some.inj H
  go_enter Tryd.func55, Tryd.ntmps55
  go_wp2
  go_ret
  exact ⟨by first | rfl | (simp; done) | (simp [*]; done), by repeat (first | exact Drawn0.refl _ | apply Drawn0.step)⟩
 rw [if_neg c2] at H
 have c2b0 : decide (65535 < a0) = false := decide_eq_false c2
 clear c2
 obtain rfl := Option.some.inj H
 go_enter Tryd.func55, Tryd.ntmps55
 go_wp2
 go_ret
 exact ⟨by first | rfl | (simp; done) | (simp [*]; done), by repeat (first | exact Drawn0.refl _ | apply Drawn0.step)⟩

/-! ### checksum_Sum: function 29 -/
def checksum_Sum.l0 : Nat → ByteArray → Int → Int → Option (Int)
 | 0, _, _, _ => none
 | k + 1, x0, x3, x4 => if x4 < (x0.size : Int) then (if 0 ≤ x4 then (if (wrap64 (x4 + 1)) < (x0.size : Int) then (if 0 ≤ (wrap64 (x4 + 1)) then ((checksum_fold.f (wrap64 (x3 + (Go.bits .or .i64 (wrap64 ((wrap64 (bt x0 x4)) * 256)) (wrap64 (bt x0 (wrap64 (x4 + 1)))))))).bind fun t114 => (checksum_Sum.l0 k x0 t114 (wrap64 (x4 + 2)))) else (none)) else ((checksum_fold.f (wrap64 (x3 + (wrap64 ((wrap64 (bt x0 x4)) * 256))))).bind fun t115 => (checksum_Sum.l0 k x0 t115 (wrap64 (x4 + 2))))) else (none)) else (some (wrap64 (65535 - x3)))
def checksum_Sum.f (k : Nat) (a0 : ByteArray) : Option (Int) := checksum_Sum.l0 k a0 0 0
theorem checksum_Sum.mono_l : ∀ k, (∀ y0 y1 y2, LeO (checksum_Sum.l0 k y0 y1 y2) (checksum_Sum.l0 (k + 1) y0 y1 y2))
 | 0 => fun _ _ _ r h => by simp [checksum_Sum.l0] at h
 | k + 1 => by
  have ih0 := checksum_Sum.mono_l k
  intro y0 y1 y2
  unfold checksum_Sum.l0
  repeat' first | with_reducible first | apply ih0 | apply LeO.refl | apply LeO.none | refine LeO.ite ?_ ?_ | refine LeO.bind ?_ (fun _ => ?_)
theorem checksum_Sum.mono : ∀ a0 k, LeO (checksum_Sum.f k a0) (checksum_Sum.f (k + 1) a0) := by
 intro a0 k
 have ih0 := checksum_Sum.mono_l k
 unfold checksum_Sum.f
 repeat' first | with_reducible first | apply ih0 | apply LeO.refl | apply LeO.none | refine LeO.ite ?_ ?_ | refine LeO.bind ?_ (fun _ => ?_)
set_option maxHeartbeats 8000000 in
set_option maxRecDepth 100000 in
theorem checksum_Sum.calls (k : Nat) (a0 : ByteArray) (r : Int) (w : World) (h : checksum_Sum.f k a0 = some r) :
  Calls Tryd.prog 29 #[.string a0] w fun e w' => e = .returned (.int .i64 r) ∧ Drawn0 w w' := by
 have H : (checksum_Sum.l0 k a0 0 0) = some r := h
 clear h
 have H' := As H
 clear H
 go_enter Tryd.func29, Tryd.ntmps29
 go_wp2
 go_loopg [3, 4] k (fun kq v3 v4 w' => ∃ (x3_1 : Int) (x4_1 : Int), v3 = .int .i64 x3_1 ∧ v4 = .int .i64 x4_1 ∧ Aside0 (checksum_Sum.l0 kq a0 x3_1 x4_1 = some r) ∧ Aside0 (kq ≤ k) ∧ Drawn0 w w')
 case atStart => exact ⟨(0), (0), kS, kS, H', ⟨Nat.le_refl _⟩, by repeat (first | exact Drawn0.refl _ | apply Drawn0.step)⟩
 clear H'
 obtain ⟨x3_1, x4_1, rfl, rfl, HA, HK1, ⟨m1, rfl⟩⟩ := hrel
 cases gk with
 | zero => exact absurd HA.out (by simp [checksum_Sum.l0])
 | succ k1 =>
  have H := HA.out
  clear HA
  simp only [checksum_Sum.l0] at H
  by_cases c2 : x4_1 < (a0.size : Int)
  ·rw [if_pos c2] at H
   have c2b0 : decide (x4_1 < (a0.size : Int)) = true := decide_eq_true c2
   clear c2
   replace H := iS H
   obtain ⟨c3, H⟩ := H
   have c3b0 := decide_eq_true c3
   clear c3
   by_cases c5 : (wrap64 (x4_1 + 1)) < (a0.size : Int)
   ·rw [if_pos c5] at H
    have c5b0 : decide ((wrap64 (x4_1 + 1)) < (a0.size : Int)) = true := decide_eq_true c5
    clear c5
    obtain ⟨ji6, hji6⟩ : ∃ j_ : Int, (wrap64 (x4_1 + 1)) = j_ := ⟨_, rfl⟩
    replace H : (if 0 ≤ (ji6) then ((checksum_fold.f (wrap64 (x3_1 + (Go.bits .or .i64 (wrap64 ((wrap64 (bt a0 x4_1)) * 256)) (wrap64 (bt a0 (ji6))))))).bind fun t114 => (checksum_Sum.l0 k1 a0 t114 (wrap64 (x4_1 + 2)))) else (none)) = some r := by first | (rw [hji6] at H; exact H) | (simp only [hji6] at H ⊢; exact H)
    (try rw [hji6] at c5b0)
    have hji6w : (IntKind.i64.wrap (x4_1 + 1)) = ji6 := (i64_w _).trans hji6
    replace H := iS H
    obtain ⟨c7, H⟩ := H
    have c7b0 := decide_eq_true c7
    clear c7
    replace H := bS H
    obtain ⟨t114, A9, H⟩ := H
    have H' := As H
    clear H
    have p4 : 0 ≤ (x4_1 : Int) := of_decide_eq_true (by first | (with_reducible assumption) | assumption)
    have q4 : x4_1 < (a0.size : Int) := of_decide_eq_true (by first | (with_reducible assumption) | assumption)
    have hx4 := bt_at a0 x4_1
    replace p4 := eq_true p4
    replace q4 := eq_true q4
    have p8 : 0 ≤ ((ji6) : Int) := of_decide_eq_true (by first | (with_reducible assumption) | assumption)
    have q8 : (ji6) < (a0.size : Int) := of_decide_eq_true (by first | (with_reducible assumption) | assumption)
    have hx8 := bt_at a0 (ji6)
    replace p8 := eq_true p8
    replace q8 := eq_true q8
    go_wp2_with (first | ((with_reducible refine gate_callee (f := 55) rfl ?_); refine goesL_ (some 32) rfl rfl Tryd.func55 (by kernel_rfl) rfl #[.int .i64 (wrap64 (x3_1 + (Go.bits .or .i64 (wrap64 ((wrap64 (bt a0 x4_1)) * 256)) (wrap64 (bt a0 (ji6))))))] rfl (by (try simp only [List.map_toArray, List.map_cons, List.map_nil]); first | done | (simp only [hji6]; rfl) | rfl | (simp only [List.length_drop, List.length_take]; rfl)) ?_; (with_reducible refine (checksum_fold.calls (wrap64 (x3_1 + (Go.bits .or .i64 (wrap64 ((wrap64 (bt a0 x4_1)) * 256)) (wrap64 (bt a0 (ji6)))))) t114 _ A9.out).mono ?_); rintro e w' ⟨rfl, ⟨nd, rfl⟩⟩; refine ⟨_, rfl, ?_⟩))
    go_roundg k1
    case measure => have := HK1.out; omega
    case rel => exact ⟨(t114), (wrap64 (x4_1 + 2)), kS, kS, H', ⟨by have := HK1.out; omega⟩, by repeat (first | exact Drawn0.refl _ | apply Drawn0.step)⟩
   rw [if_neg c5] at H
   have c5b0 : decide ((wrap64 (x4_1 + 1)) < (a0.size : Int)) = false := decide_eq_false c5
   clear c5
   replace H := bS H
   obtain ⟨t115, A10, H⟩ := H
   have H' := As H
   clear H
   have p4 : 0 ≤ (x4_1 : Int) := of_decide_eq_true (by first | (with_reducible assumption) | assumption)
   have q4 : x4_1 < (a0.size : Int) := of_decide_eq_true (by first | (with_reducible assumption) | assumption)
   have hx4 := bt_at a0 x4_1
   replace p4 := eq_true p4
   replace q4 := eq_true q4
   go_wp2_with (first | ((with_reducible refine gate_callee (f := 55) rfl ?_); refine goesL_ (some 32) rfl rfl Tryd.func55 (by kernel_rfl) rfl #[.int .i64 (wrap64 (x3_1 + (wrap64 ((wrap64 (bt a0 x4_1)) * 256))))] rfl kA ?_; (with_reducible refine (checksum_fold.calls (wrap64 (x3_1 + (wrap64 ((wrap64 (bt a0 x4_1)) * 256)))) t115 _ A10.out).mono ?_); rintro e w' ⟨rfl, ⟨nd, rfl⟩⟩; refine ⟨_, rfl, ?_⟩))
   go_roundg k1
   case measure => have := HK1.out; omega
   case rel => exact ⟨(t115), (wrap64 (x4_1 + 2)), kS, kS, H', ⟨by have := HK1.out; omega⟩, by repeat (first | exact Drawn0.refl _ | apply Drawn0.step)⟩
  rw [if_neg c2] at H
  have c2b0 : decide (x4_1 < (a0.size : Int)) = false := decide_eq_false c2
  clear c2
  obtain rfl := Option.some.inj H
  go_wp2
  go_ret
  exact ⟨by first | rfl | (simp; done) | (simp [*]; done), by repeat (first | exact Drawn0.refl _ | apply Drawn0.step)⟩

end Go.Proofs.YtocobalkikkhlaaDoor.X
-- short
-- short2
