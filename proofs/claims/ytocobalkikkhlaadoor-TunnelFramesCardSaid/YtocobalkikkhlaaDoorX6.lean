/- Functions and their walks, printed by xprint.py. -/
import Derived.Test.YtocobalkikkhlaaDoorX0
import Derived.Test.YtocobalkikkhlaaDoorX1
import Derived.Test.YtocobalkikkhlaaDoorX3
import Derived.Test.YtocobalkikkhlaaDoorX5
namespace Go.Proofs.YtocobalkikkhlaaDoor.X
open Go.RowKit Go.Proofs.YtocobalkikkhlaaDoorW.PrintWords Go.Proofs.YtocobalkikkhlaaDoorW.PrintLast Go.Proofs.YtocobalkikkhlaaDoorW.PrintMore
attribute [local go_sem] max2_int min2_int max_two min_two max_three min_three max_four min_four   -- for this text's walks alone
set_option linter.unusedVariables false
set_option linter.unusedSimpArgs false

attribute [local go_sem high] eqA24
/-! ### field_Get: function 109 -/
def field_Get.f (k : Nat) (a0 : ByteArray) (a1 : Int) (a2 : Int) : Option (Int × Int) :=
  if a0.size ≤ 9223372036854775807 then (if (a2 < 1 ∨ 7 < a2) ∨ a1 < 0 then some (0, 4) else if (a0.size : Int) < a1 ∨ (a0.size : Int) - a1 < a2 then some (0, 1)
    else (field_number.f k (bytesOf (a0.extract a1.toNat (a1 + a2).toNat))).bind fun t => some (t, 0)) else none
theorem field_Get.mono : ∀ a0 a1 a2 k, LeO (field_Get.f k a0 a1 a2) (field_Get.f (k + 1) a0 a1 a2) := by
  intro a0 a1 a2 k
  unfold field_Get.f
  refine LeO.ite ?_ (LeO.none _)
  refine LeO.ite (LeO.refl _) ?_
  refine LeO.ite (LeO.refl _) ?_
  exact LeO.bind (field_number.mono _ k) (fun _ => LeO.refl _)
theorem field_Get.number_nil : field_number.f 1 [] = some 0 := by decide
set_option maxHeartbeats 8000000 in
set_option maxRecDepth 100000 in
theorem field_Get.calls (k : Nat) (a0 : ByteArray) (a1 : Int) (a2 : Int) (r1 : Int) (r2 : Int) (w : World) (h : field_Get.f k a0 a1 a2 = some (r1, r2)) :
    Calls Tryd.prog 109 #[.string a0, .int .i64 a1, .int .i64 a2] w fun e w' => e = .returned (.tuple #[.int .i64 r1, .int .i64 r2]) ∧ Below w.heap.size w w' := by
  unfold field_Get.f at h
  have hsz : a0.size ≤ 9223372036854775807 := by
    rcases Nat.lt_or_ge 9223372036854775807 a0.size with h' | h'
    · rw [if_neg (by omega)] at h; cases h
    exact h'
  rw [if_pos hsz] at h
  have hs0 : (0 : Int) ≤ (a0.size : Int) := by omega
  by_cases c1 : (a2 < 1 ∨ 7 < a2) ∨ a1 < 0
  · rw [if_pos c1] at h
    simp only [Option.some.injEq, Prod.mk.injEq] at h
    obtain ⟨rfl, rfl⟩ := h
    have HR := fun W => field_part.range a0 a1 a2 W c1
    have HRA := As HR
    clear HR
    by_cases hv : 1 ≤ a2 ∧ a2 ≤ 7
    · have ha : decide (0 ≤ a1) = false := decide_eq_false (by omega)
      have A1 := As (show field_valid.f a2 = some true by unfold field_valid.f; rw [if_pos hv.1]; simp [hv.2])
      clear hv c1
      go_enter Tryd.func109, Tryd.ntmps109
      go_wp2_with (first | (go_at_call 54; (with_reducible refine (field_valid.calls a2 true _ A1.out).mono ?_); rintro e w' ⟨rfl, ⟨nd, rfl⟩⟩) | (go_at_call 118; refine (HRA.out _).mono ?_; rintro e w1 ⟨rfl, hb⟩) | (go_at_call 106; refine (calls_of_args (args' := #[.slice none ([] : List Int).length 0]) rfl (field_number.calls 1 none 0 [] 0 _ (Kd.C_nil _ _) (Nat.zero_le _) field_Get.number_nil)).mono ?_; rintro e w2 ⟨rfl, ⟨nd2, rfl⟩⟩))
      go_ret2
      exact ⟨rfl, pw_below_drewN (below_step (pw_below_drewN (Below.refl _ _) _) hb) _⟩
    have A1 := As (show field_valid.f a2 = some false by unfold field_valid.f; split <;> simp; omega)
    clear hv c1
    go_enter Tryd.func109, Tryd.ntmps109
    go_wp2_with (first | (go_at_call 54; (with_reducible refine (field_valid.calls a2 false _ A1.out).mono ?_); rintro e w' ⟨rfl, ⟨nd, rfl⟩⟩) | (go_at_call 118; refine (HRA.out _).mono ?_; rintro e w1 ⟨rfl, hb⟩) | (go_at_call 106; refine (calls_of_args (args' := #[.slice none ([] : List Int).length 0]) rfl (field_number.calls 1 none 0 [] 0 _ (Kd.C_nil _ _) (Nat.zero_le _) field_Get.number_nil)).mono ?_; rintro e w2 ⟨rfl, ⟨nd2, rfl⟩⟩))
    go_ret2
    exact ⟨rfl, pw_below_drewN (below_step (pw_below_drewN (Below.refl _ _) _) hb) _⟩
  rw [if_neg c1] at h
  have A1 := As (show field_valid.f a2 = some true by unfold field_valid.f; rw [if_pos (by omega)]; simp; omega)
  have ha : decide (0 ≤ a1) = true := decide_eq_true (by omega)
  by_cases c2 : (a0.size : Int) < a1 ∨ (a0.size : Int) - a1 < a2
  · rw [if_pos c2] at h
    simp only [Option.some.injEq, Prod.mk.injEq] at h
    obtain ⟨rfl, rfl⟩ := h
    have HR := fun W => field_part.short a0 a1 a2 W (by omega) (by omega) (by omega) hsz c2
    have HRA := As HR
    clear HR
    by_cases hb : a1 ≤ (a0.size : Int)
    · have hc : decide (a1 ≤ (a0.size : Int)) = true := decide_eq_true hb
      have hd : decide (a2 ≤ (a0.size : Int) - a1) = false := decide_eq_false (by omega)
      have ha1 : 0 ≤ a1 := by omega
      clear c1 c2
      go_enter Tryd.func109, Tryd.ntmps109
      go_wp2_with (first | (go_at_call 54; (with_reducible refine (field_valid.calls a2 true _ A1.out).mono ?_); rintro e w' ⟨rfl, ⟨nd, rfl⟩⟩) | (go_at_call 118; refine (HRA.out _).mono ?_; rintro e w1 ⟨rfl, hb⟩) | (go_at_call 106; refine (calls_of_args (args' := #[.slice none ([] : List Int).length 0]) rfl (field_number.calls 1 none 0 [] 0 _ (Kd.C_nil _ _) (Nat.zero_le _) field_Get.number_nil)).mono ?_; rintro e w2 ⟨rfl, ⟨nd2, rfl⟩⟩))
      go_ret2
      exact ⟨rfl, pw_below_drewN (below_step (pw_below_drewN (Below.refl _ _) _) hb) _⟩
    have hc : decide (a1 ≤ (a0.size : Int)) = false := decide_eq_false hb
    clear c1 c2 hb
    go_enter Tryd.func109, Tryd.ntmps109
    go_wp2_with (first | (go_at_call 54; (with_reducible refine (field_valid.calls a2 true _ A1.out).mono ?_); rintro e w' ⟨rfl, ⟨nd, rfl⟩⟩) | (go_at_call 118; refine (HRA.out _).mono ?_; rintro e w1 ⟨rfl, hb⟩) | (go_at_call 106; refine (calls_of_args (args' := #[.slice none ([] : List Int).length 0]) rfl (field_number.calls 1 none 0 [] 0 _ (Kd.C_nil _ _) (Nat.zero_le _) field_Get.number_nil)).mono ?_; rintro e w2 ⟨rfl, ⟨nd2, rfl⟩⟩))
    go_ret2
    exact ⟨rfl, pw_below_drewN (below_step (pw_below_drewN (Below.refl _ _) _) hb) _⟩
  rw [if_neg c2] at h
  replace h := Option.bind_eq_some_iff.mp h
  obtain ⟨t, A20, h⟩ := h
  simp only [Option.some.injEq, Prod.mk.injEq] at h
  obtain ⟨rfl, rfl⟩ := h
  have A2 := As A20
  clear A20
  have hc : decide (a1 ≤ (a0.size : Int)) = true := decide_eq_true (by omega)
  have hd : decide (a2 ≤ (a0.size : Int) - a1) = true := decide_eq_true (by omega)
  have h1 : 0 ≤ a1 := by omega
  have h2 : a1 ≤ a1 + a2 := by omega
  have h3 : a1 + a2 ≤ (a0.size : Int) := by omega
  have h4 : a1 ≤ (a0.size : Int) := by omega
  have HX := As (show (((a0.extract a1.toNat (a1 + a2).toNat).size : Nat) : Int) = a2 by rw [ByteArray.size_extract]; omega)
  have h5 : 1 ≤ a2 := by omega
  have h6 : a2 ≤ 7 := by omega
  have HW := As (fun W => field_part.whole (a0.extract a1.toNat (a1 + a2).toNat) a2 W (by omega) (by omega) HX.out)
  clear c1 c2
  go_enter Tryd.func109, Tryd.ntmps109
  go_wp2_with (first | (go_at_call 54; (with_reducible refine (field_valid.calls a2 true _ A1.out).mono ?_); rintro e w' ⟨rfl, ⟨nd, rfl⟩⟩) | (go_at_call 118; refine (HW.out _).mono ?_; rintro e w1 ⟨W1, rfl, hb, rfl⟩) | (go_at_call 106; refine (calls_of_args (args' := #[.slice (some ⟨W1.heap.size, 0, none⟩) (bytesOf (a0.extract a1.toNat (a1 + a2).toNat)).length (a0.extract a1.toNat (a1 + a2).toNat).size]) (by rw [bytesOf_length, show (a0.extract a1.toNat (a1 + a2).toNat).size = (a1 + a2).toNat - a1.toNat from by rw [ByteArray.size_extract]; omega]) (field_number.calls k _ _ (bytesOf (a0.extract a1.toNat (a1 + a2).toNat)) t _ (Kd.C_of_reads (d := (0 : Int)) (h1 := fun _ => rfl) (by rw [bytesOf_length]; exact bytes_reads W1 5 _ (by have := HX.out; omega))) (by rw [bytesOf_length]; exact Nat.le_refl _) A2.out)).mono ?_; rintro e w2 ⟨rfl, ⟨nd2, rfl⟩⟩))
  go_ret2
  exact ⟨rfl, pw_below_drewN (bytes_below (below_step (pw_below_drewN (Below.refl _ _) _) hb) (below_size (below_step (pw_below_drewN (Below.refl _ _) _) hb)) 5 _) _⟩

/-! ### udp_ends_fit: function 90 -/
def udp_ends_fit.f (b0 : Bool) (b1 : Int) (b2 : Int) (b3 : Bool) (b4 : Int) (b5 : Int) : Option (Bool) := (address_Valid.f b0 b1 b2).bind fun t210 => (if t210 = true then ((address_Valid.f b3 b4 b5).bind fun t211 => (if t211 = true then (if (b0 == b3 && (b1 == b4 && (b2 == b5))) = true then (some true) else (some (b0 == b3))) else (some false))) else (some false))
set_option maxHeartbeats 8000000 in
set_option maxRecDepth 100000 in
theorem udp_ends_fit.calls (b0 : Bool) (b1 : Int) (b2 : Int) (b3 : Bool) (b4 : Int) (b5 : Int) (r : Bool) (w : World) (h : udp_ends_fit.f b0 b1 b2 b3 b4 b5 = some r) :
  Calls Tryd.prog 90 #[.agg #[.bool b0, .int .u64 b1, .int .u64 b2, .bool b3, .int .u64 b4, .int .u64 b5]] w fun e w' => e = .returned (.bool r) ∧ Below w.heap.size w w' := by
 have hu118 := Tryd.underlying118
 have hu24 := Tryd.underlying24
 have HB := As (Below.refl w.heap.size w)
 have H : ((address_Valid.f b0 b1 b2).bind fun t210 => (if t210 = true then ((address_Valid.f b3 b4 b5).bind fun t211 => (if t211 = true then (if (b0 == b3 && (b1 == b4 && (b2 == b5))) = true then (some true) else (some (b0 == b3))) else (some false))) else (some false))) = some r := h
 clear h
 replace H := Option.bind_eq_some_iff.mp H
 obtain ⟨t210, A20, H⟩ := H
 replace H : (if t210 = true then ((address_Valid.f b3 b4 b5).bind fun t211 => (if t211 = true then (if (b0 == b3 && (b1 == b4 && (b2 == b5))) = true then (some true) else (some (b0 == b3))) else (some false))) else (some false)) = some r := H
 have A2 := As A20
 clear A20
 by_cases c3 : t210 = true
 ·subst c3
  have H1 : ((address_Valid.f b3 b4 b5).bind fun t211 => (if t211 = true then (if (b0 == b3 && (b1 == b4 && (b2 == b5))) = true then (some true) else (some (b0 == b3))) else (some false))) = some r := by rw [if_pos rfl] at H; exact H
  clear H
  have H := H1
  clear H1
  replace H := Option.bind_eq_some_iff.mp H
  obtain ⟨t211, A40, H⟩ := H
  replace H : (if t211 = true then (if (b0 == b3 && (b1 == b4 && (b2 == b5))) = true then (some true) else (some (b0 == b3))) else (some false)) = some r := H
  have A4 := As A40
  clear A40
  by_cases c5 : t211 = true
  ·subst c5
   have H1 : (if (b0 == b3 && (b1 == b4 && (b2 == b5))) = true then (some true) else (some (b0 == b3))) = some r := by rw [if_pos rfl] at H; exact H
   clear H
   have H := H1
   clear H1
   by_cases c6 : (b0 == b3 && (b1 == b4 && (b2 == b5))) = true
   ·rw [if_pos c6] at H
    have c6b0 : (b0 == b3 && (b1 == b4 && (b2 == b5))) = true := c6
    (try (have c6b1 : decide (b0 = b3 && (b1 == b4 && (b2 == b5))) = true := by simpa using c6))
    (try (have c6b2 : (b0 == b3 && (b1 == b4 && (b2 == b5))) = true := by simpa using c6))
    clear c6
    obtain rfl := Option.some.inj H
    go_enter Tryd.func90, Tryd.ntmps90
    go_wp2_with (first | ((with_reducible refine gate_dst (N := 1) rfl ?_); refine box_event rfl (N := 1) rfl (cs := #[.bool b0, .int .u64 b1, .int .u64 b2, .bool b3, .int .u64 b4, .int .u64 b5]) (t := 118) kG ?_; intro gb209 hg w7 hbox hb; have BK209 := As (hbox); have GW209 := As ((by rw [hg]; exact (below_size (kB HB.out)) : w.heap.size ≤ gb209)); have GE209 := As ((by rw [hg]; exact (below_size (kB HB.out)) : w.heap.size ≤ gb209)); replace HB := As (below_step (kB HB.out) hb); clear hb hbox hg; have hcz8_0 := cells_6 BK209.out; have hfz8_0 := fun j_ => blk_frozen BK209.out j_) | ((with_reducible refine gate_callee (f := 53) rfl ?_); refine goesL_ (some 5) rfl rfl Tryd.func53 (by kernel_rfl) rfl #[.agg #[.bool b0, .int .u64 b1, .int .u64 b2]] rfl kA ?_; (with_reducible refine (address_Valid.calls b0 b1 b2 true _ A2.out).mono ?_); rintro e w9 ⟨rfl, hb⟩; refine ⟨_, rfl, ?_⟩; replace BK209 := As (blk_below (kb BK209.out) hb); replace HB := As (below_step (kB1 HB.out GE209.out) hb); (try clear hb); have hcz10_0 := cells_6 BK209.out; have hfz10_0 := fun j_ => blk_frozen BK209.out j_) | (go_at_call 53; (with_reducible refine (address_Valid.calls b3 b4 b5 true _ A4.out).mono ?_); rintro e w11 ⟨rfl, hb⟩; replace BK209 := As (blk_below (kb BK209.out) hb); replace HB := As (below_step (kB1 HB.out GE209.out) hb); (try clear hb); have hcz12_0 := cells_6 BK209.out; have hfz12_0 := fun j_ => blk_frozen BK209.out j_))
    go_ret
    exact ⟨kE, by exact kB1 HB.out GE209.out⟩
   rw [if_neg c6] at H
   have c6b0 : (b0 == b3 && (b1 == b4 && (b2 == b5))) = false := by simpa using c6
   (try (have c6b1 : decide (b0 = b3 && (b1 == b4 && (b2 == b5))) = false := by simpa using c6))
   (try (have c6b2 : (b0 == b3 && (b1 == b4 && (b2 == b5))) = false := by simpa using c6))
   (try (have c6b3 : ¬ (b0 = b3 && (b1 == b4 && (b2 == b5))) := by simpa using c6))
   clear c6
   obtain rfl := Option.some.inj H
   go_enter Tryd.func90, Tryd.ntmps90
   go_wp2_with (first | ((with_reducible refine gate_dst (N := 1) rfl ?_); refine box_event rfl (N := 1) rfl (cs := #[.bool b0, .int .u64 b1, .int .u64 b2, .bool b3, .int .u64 b4, .int .u64 b5]) (t := 118) kG ?_; intro gb209 hg w13 hbox hb; have BK209 := As (hbox); have GW209 := As ((by rw [hg]; exact (below_size (kB HB.out)) : w.heap.size ≤ gb209)); have GE209 := As ((by rw [hg]; exact (below_size (kB HB.out)) : w.heap.size ≤ gb209)); replace HB := As (below_step (kB HB.out) hb); clear hb hbox hg; have hcz14_0 := cells_6 BK209.out; have hfz14_0 := fun j_ => blk_frozen BK209.out j_) | ((with_reducible refine gate_callee (f := 53) rfl ?_); refine goesL_ (some 5) rfl rfl Tryd.func53 (by kernel_rfl) rfl #[.agg #[.bool b0, .int .u64 b1, .int .u64 b2]] rfl kA ?_; (with_reducible refine (address_Valid.calls b0 b1 b2 true _ A2.out).mono ?_); rintro e w15 ⟨rfl, hb⟩; refine ⟨_, rfl, ?_⟩; replace BK209 := As (blk_below (kb BK209.out) hb); replace HB := As (below_step (kB1 HB.out GE209.out) hb); (try clear hb); have hcz16_0 := cells_6 BK209.out; have hfz16_0 := fun j_ => blk_frozen BK209.out j_) | (go_at_call 53; (with_reducible refine (address_Valid.calls b3 b4 b5 true _ A4.out).mono ?_); rintro e w17 ⟨rfl, hb⟩; replace BK209 := As (blk_below (kb BK209.out) hb); replace HB := As (below_step (kB1 HB.out GE209.out) hb); (try clear hb); have hcz18_0 := cells_6 BK209.out; have hfz18_0 := fun j_ => blk_frozen BK209.out j_))
   go_ret
   exact ⟨kE, by exact kB1 HB.out GE209.out⟩
  replace c5 := Bool.eq_false_iff.mpr c5
  subst c5
  have H1 : (some false) = some r := by rw [if_neg (show ¬ (false = true) by decide)] at H; exact H
  clear H
  have H := H1
  clear H1
  obtain rfl := Option.some.inj H
  go_enter Tryd.func90, Tryd.ntmps90
  go_wp2_with (first | ((with_reducible refine gate_dst (N := 1) rfl ?_); refine box_event rfl (N := 1) rfl (cs := #[.bool b0, .int .u64 b1, .int .u64 b2, .bool b3, .int .u64 b4, .int .u64 b5]) (t := 118) kG ?_; intro gb209 hg w19 hbox hb; have BK209 := As (hbox); have GW209 := As ((by rw [hg]; exact (below_size (kB HB.out)) : w.heap.size ≤ gb209)); have GE209 := As ((by rw [hg]; exact (below_size (kB HB.out)) : w.heap.size ≤ gb209)); replace HB := As (below_step (kB HB.out) hb); clear hb hbox hg; have hcz20_0 := cells_6 BK209.out; have hfz20_0 := fun j_ => blk_frozen BK209.out j_) | ((with_reducible refine gate_callee (f := 53) rfl ?_); refine goesL_ (some 5) rfl rfl Tryd.func53 (by kernel_rfl) rfl #[.agg #[.bool b0, .int .u64 b1, .int .u64 b2]] rfl kA ?_; (with_reducible refine (address_Valid.calls b0 b1 b2 true _ A2.out).mono ?_); rintro e w21 ⟨rfl, hb⟩; refine ⟨_, rfl, ?_⟩; replace BK209 := As (blk_below (kb BK209.out) hb); replace HB := As (below_step (kB1 HB.out GE209.out) hb); (try clear hb); have hcz22_0 := cells_6 BK209.out; have hfz22_0 := fun j_ => blk_frozen BK209.out j_) | (go_at_call 53; (with_reducible refine (address_Valid.calls b3 b4 b5 false _ A4.out).mono ?_); rintro e w23 ⟨rfl, hb⟩; replace BK209 := As (blk_below (kb BK209.out) hb); replace HB := As (below_step (kB1 HB.out GE209.out) hb); (try clear hb)))
  go_ret
  exact ⟨kE, by exact kB1 HB.out GE209.out⟩
 replace c3 := Bool.eq_false_iff.mpr c3
 subst c3
 have H1 : (some false) = some r := by rw [if_neg (show ¬ (false = true) by decide)] at H; exact H
 clear H
 have H := H1
 clear H1
 obtain rfl := Option.some.inj H
 go_enter Tryd.func90, Tryd.ntmps90
 go_wp2_with (first | ((with_reducible refine gate_dst (N := 1) rfl ?_); refine box_event rfl (N := 1) rfl (cs := #[.bool b0, .int .u64 b1, .int .u64 b2, .bool b3, .int .u64 b4, .int .u64 b5]) (t := 118) kG ?_; intro gb209 hg w24 hbox hb; have BK209 := As (hbox); have GW209 := As ((by rw [hg]; exact (below_size (kB HB.out)) : w.heap.size ≤ gb209)); have GE209 := As ((by rw [hg]; exact (below_size (kB HB.out)) : w.heap.size ≤ gb209)); replace HB := As (below_step (kB HB.out) hb); clear hb hbox hg; have hcz25_0 := cells_6 BK209.out; have hfz25_0 := fun j_ => blk_frozen BK209.out j_) | ((with_reducible refine gate_callee (f := 53) rfl ?_); refine goesL_ (some 5) rfl rfl Tryd.func53 (by kernel_rfl) rfl #[.agg #[.bool b0, .int .u64 b1, .int .u64 b2]] rfl kA ?_; (with_reducible refine (address_Valid.calls b0 b1 b2 false _ A2.out).mono ?_); rintro e w26 ⟨rfl, hb⟩; refine ⟨_, rfl, ?_⟩; replace BK209 := As (blk_below (kb BK209.out) hb); replace HB := As (below_step (kB1 HB.out GE209.out) hb); (try clear hb)))
 go_ret
 exact ⟨kE, by exact kB1 HB.out GE209.out⟩

/-! ### checksum_valid: function 119 -/
def checksum_valid.f (a0_0 : Bool) (a0_1 : Int) (a0_2 : Int) : Option (Bool) := if a0_0 = true then (some true) else (if a0_1 = 0 then (some (decide (a0_2 < 4294967296))) else (some false))
set_option maxHeartbeats 8000000 in
set_option maxRecDepth 100000 in
theorem checksum_valid.calls (a0_0 : Bool) (a0_1 : Int) (a0_2 : Int) (r : Bool) (w : World) (h : checksum_valid.f a0_0 a0_1 a0_2 = some r) :
  Calls Tryd.prog 119 #[.agg #[.bool a0_0, .int .u64 a0_1, .int .u64 a0_2]] w fun e w' => e = .returned (.bool r) ∧ Below w.heap.size w w' := by
 have hu24 := Tryd.underlying24
 have HB := As (Below.refl w.heap.size w)
 have H : (if a0_0 = true then (some true) else (if a0_1 = 0 then (some (decide (a0_2 < 4294967296))) else (some false))) = some r := h
 clear h
 by_cases c2 : a0_0 = true
 ·subst c2
  have H1 : (some true) = some r := by rw [if_pos rfl] at H; exact H
  clear H
  have H := H1
  clear H1
  obtain rfl := Option.some.inj H
  go_enter Tryd.func119, Tryd.ntmps119
  go_wp2_with (first | ((with_reducible refine gate_dst (N := 1) rfl ?_); refine box_event rfl (N := 1) rfl (cs := #[.bool true, .int .u64 a0_1, .int .u64 a0_2]) (t := 24) kG ?_; intro gb212 hg w3 hbox hb; have BK212 := As (hbox); have GW212 := As ((by rw [hg]; exact (below_size (kB HB.out)) : w.heap.size ≤ gb212)); have GE212 := As ((by rw [hg]; exact (below_size (kB HB.out)) : w.heap.size ≤ gb212)); replace HB := As (below_step (kB HB.out) hb); clear hb hbox hg; have hcz4_0 := cells_3 BK212.out; have hfz4_0 := fun j_ => blk_frozen BK212.out j_))
  go_ret
  exact ⟨kE, by exact kB1 HB.out GE212.out⟩
 replace c2 := Bool.eq_false_iff.mpr c2
 subst c2
 have H1 : (if a0_1 = 0 then (some (decide (a0_2 < 4294967296))) else (some false)) = some r := by rw [if_neg (show ¬ (false = true) by decide)] at H; exact H
 clear H
 have H := H1
 clear H1
 by_cases c5 : a0_1 = 0
 ·rw [if_pos c5] at H
  have c5b0 : (a0_1 == 0) = true := beq_iff_eq.mpr c5
  have c5b1 : (a0_1 != 0) = false := bne_eq_false_iff_eq.mpr c5
  clear c5
  obtain rfl := Option.some.inj H
  go_enter Tryd.func119, Tryd.ntmps119
  go_wp2_with (first | ((with_reducible refine gate_dst (N := 1) rfl ?_); refine box_event rfl (N := 1) rfl (cs := #[.bool false, .int .u64 a0_1, .int .u64 a0_2]) (t := 24) kG ?_; intro gb212 hg w6 hbox hb; have BK212 := As (hbox); have GW212 := As ((by rw [hg]; exact (below_size (kB HB.out)) : w.heap.size ≤ gb212)); have GE212 := As ((by rw [hg]; exact (below_size (kB HB.out)) : w.heap.size ≤ gb212)); replace HB := As (below_step (kB HB.out) hb); clear hb hbox hg; have hcz7_0 := cells_3 BK212.out; have hfz7_0 := fun j_ => blk_frozen BK212.out j_))
  go_ret
  exact ⟨kE, by exact kB1 HB.out GE212.out⟩
 rw [if_neg c5] at H
 have c5b0 : (a0_1 == 0) = false := beq_eq_false_iff_ne.mpr c5
 have c5b1 : (a0_1 != 0) = true := bne_iff_ne.mpr c5
 obtain rfl := Option.some.inj H
 go_enter Tryd.func119, Tryd.ntmps119
 go_wp2_with (first | ((with_reducible refine gate_dst (N := 1) rfl ?_); refine box_event rfl (N := 1) rfl (cs := #[.bool false, .int .u64 a0_1, .int .u64 a0_2]) (t := 24) kG ?_; intro gb212 hg w8 hbox hb; have BK212 := As (hbox); have GW212 := As ((by rw [hg]; exact (below_size (kB HB.out)) : w.heap.size ≤ gb212)); have GE212 := As ((by rw [hg]; exact (below_size (kB HB.out)) : w.heap.size ≤ gb212)); replace HB := As (below_step (kB HB.out) hb); clear hb hbox hg; have hcz9_0 := cells_3 BK212.out; have hfz9_0 := fun j_ => blk_frozen BK212.out j_))
 go_ret
 exact ⟨kE, by exact kB1 HB.out GE212.out⟩

/-! ### checksum_number: function 120 -/
def checksum_number.f (a0 : Int) (a1 : Int) : Option (ByteArray) := if 1 ≤ a1 ∧ a1 ≤ 8 then some (strOfNums ((TAB1.drop (8 - a1.toNat)).map fun s => shr .u64 a0 s % 256)) else none
theorem checksum_number.cut (n : Nat) (h1 : 1 ≤ n) (h8 : n ≤ 8) : ∀ W : World, (Instr.sliceAt 150 (.pointer (some ⟨1, 0, none⟩)) (some (.int .i64 (8 - (n : Int)))) none none).run Tryd.prog W = .ok (.slice (some ⟨1, 8 - n, none⟩) n n) W := by
  intro W
  have hl : Tryd.prog.arrayLen 150 = 8 := by kernel_rfl
  have hu : Tryd.prog.underlying 150 = some (.array (Tryd.prog.arrayLen 150) (Tryd.prog.elem 150)) := by kernel_rfl
  rw [run_sliceAt_array_l W 150 _ hu .i64 _ (by omega) (by rw [hl]; omega), hl]
  have hs : ∀ W : World, (sizeOf (Tryd.prog.elem 150)).run Tryd.prog W = .ok 1 W := fun W => by kernel_rfl
  rw [hs]
  have e1 : (8 - (n : Int)).toNat = 8 - n := by omega
  have e2 : ¬ 8 = 8 - n := by omega
  have e3 : 8 - (8 - n) = n := by omega
  simp [Result.andThen, slicedAt, e1, e2, e3, add_plain]
theorem checksum_number.take (a0 : Int) (xs : List Int) (i : Nat) (hi : i < xs.length) : ((xs.take i).map fun s => shr .u64 a0 s % 256) ++ [shr .u64 a0 (xs.getD i 0) % 256] = (xs.take (i + 1)).map fun s => shr .u64 a0 s % 256 := by
  rw [List.take_succ_eq_append_getElem hi, List.map_append]
  simp [List.getD, List.getElem?_eq_getElem hi]
set_option maxHeartbeats 8000000 in
set_option maxRecDepth 100000 in
theorem checksum_number.calls (a0 : Int) (a1 : Int) (r : ByteArray) (w : World) (hLd : Laid w) (h : checksum_number.f a0 a1 = some r) :
    Calls Tryd.prog 120 #[.int .u64 a0, .int .i64 a1] w fun e w' => e = .returned (.string r) ∧ Below w.heap.size w w' := by
  unfold checksum_number.f at h
  by_cases hn : 1 ≤ a1 ∧ a1 ≤ 8
  · rw [if_pos hn] at h
    have H := As (Option.some.inj h)
    obtain ⟨n, rfl⟩ : ∃ n : Nat, a1 = n := ⟨a1.toNat, by omega⟩
    have h1 : 1 ≤ n := by omega
    have h8 : n ≤ 8 := by omega
    clear hn h
    have HLD := As hLd
    clear hLd
    have HB := As (Below.refl w.heap.size w)
    obtain ⟨xs, hxs⟩ : ∃ xs, xs = TAB1.drop (8 - n) := ⟨_, rfl⟩
    have HX := As hxs
    clear hxs
    have hlen : xs.length = n := by rw [HX.out, List.length_drop, show TAB1.length = 8 from rfl]; omega
    have HN := As hlen
    clear hlen
    have hcut := checksum_number.cut n h1 h8
    go_enter Tryd.func120, Tryd.ntmps120
    go_wp2_with (first | ((with_reducible refine gate_dst (N := 9) rfl ?_); refine make0_at 5 rfl (N := 9) rfl 47 _ _ rfl (n : Int) rfl rfl Tryd.underlying47 info5 (by omega) (by omega) ?_; intro v1 w1 ho hb; have HO := As ho; have HB1 := As hb; clear ho hb HB; have HB := HB1; clear HB1))
    go_loopg [5, 14] n (fun kq v5 v14 w' => ∃ i : Nat, v14 = .int .i64 i ∧ Aside0 (i + kq = n) ∧ Aside0 (Kd.R (Kd.int .u8) 5 w' w.heap.size (fun _ => True) v5 ((xs.take i).map fun s => shr .u64 a0 s % 256)) ∧ Aside0 (Below w.heap.size w w'))
    case atStart => exact ⟨0, rfl, ⟨Nat.zero_add _⟩, ⟨HO.out⟩, ⟨HB.out⟩⟩
    clear hcut HO HB
    obtain ⟨i, rfl, HK, HO, HB⟩ := hrel
    by_cases hi : i < n
    · obtain ⟨s, hs⟩ : ∃ s, s = xs.getD i 0 := ⟨_, rfl⟩
      have HS := As hs
      clear hs
      have hs1 : 0 ≤ s ∧ s ≤ 64 := by
        have h3 : ∀ j, j < 8 → 0 ≤ TAB1.getD j 0 ∧ TAB1.getD j 0 ≤ 64 := by decide
        have h4 := h3 (8 - n + i) (by omega)
        have h5 : s = TAB1.getD (8 - n + i) 0 := by rw [HS.out, HX.out]; simp [List.getD]
        rw [h5]; exact h4
      have hs0 : 0 ≤ s := hs1.1
      have hs64 : s ≤ 64 := hs1.2
      have hs0b := eq_true hs0
      have hs0c : decide (0 ≤ s) = true := decide_eq_true hs0
      clear hs1
      have hcell : wr.cell? ⟨1, 8 - n + i, none⟩ = some (.int .u64 s) := by
        have h2 := (laid_below HLD.out HB.out).2 (8 - n + i) (by omega)
        rw [h2, HS.out, HX.out]
        simp [List.getD]
      obtain ⟨q, hq⟩ : ∃ q : Int, shr .u64 a0 s = q := ⟨_, rfl⟩
      have hq1 : (a0 / 2 ^ min s.toNat 64) = q := hq
      have hq2 : (a0 / 2 ^ s.toNat) = q := by rw [← hq1, Nat.min_eq_left (by omega)]
      have HQ := As hq
      clear hq
      go_wp2_with (first | ((with_reducible refine gate_builtin (b := .append) (xs := #[.tmp 18, .tmp 23]) rfl ?_); at_builtin; refine Kd.R_append (Kd.int .u8) (w0 := w) w.heap.size rfl (.tmp 18) (.tmp 23) 47 5 (.int .u8 0) 1 rfl Tryd.underlying47 info5 rfl (by decide) (by omega) _ ((xs.take i).map fun s => shr .u64 a0 s % 256) (q % 256) [.int .u8 (q % 256)] (fun _ => True) (fun _ => False) rfl rfl ?aP (fun _ hk => hk.elim) (fun _ _ => trivial) ?aO ?aB ?aS ?aL ?_; (case aP => exact rfl); (case aB => exact (kB HB.out)); (case aO => exact (kR HO.out)); (case aS => exact (below_size (kB HB.out))); (case aL => rw [List.length_map, List.length_take]; omega); intro v2 w2 ho hb hg hat; rw [← HQ.out, HS.out, checksum_number.take a0 xs i (by rw [HN.out]; exact hi)] at ho; have n0_ := As hb; have n1_ := As ho; clear HB HO; have HB := n0_; have HO := n1_; clear n0_ n1_ ho hb hg hat))
      go_roundg (gk - 1)
      case measure => have := HK.out; omega
      case rel => exact ⟨i + 1, by first | rfl | (simp; done), ⟨by have := HK.out; omega⟩, HO, HB⟩
    have hin : i = n := by have := HK.out; omega
    subst hin
    rw [show xs.take i = xs from List.take_of_length_le (by rw [HN.out]; exact Nat.le_refl _)] at HO
    have hcv := own_string (P := Tryd.prog) Tryd.underlying47 Tryd.underlying5 Tryd.underlying9 (Kd.own_of_R HO.out)
    go_wp2
    go_ret
    refine ⟨?_, HB.out⟩
    rw [← H.out, Int.toNat_natCast, ← HX.out]
    rfl
  rw [if_neg hn] at h
  cases h

end Go.Proofs.YtocobalkikkhlaaDoor.X
-- short
