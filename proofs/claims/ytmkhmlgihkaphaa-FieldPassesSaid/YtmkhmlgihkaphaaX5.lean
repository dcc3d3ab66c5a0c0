/- What the functions of the translation that this claim's statement reaches compute, each proved by its walk. Written by xprint.py, a program of this claim's author, run over the kit's printer. -/
import Derived.Test.YtmkhmlgihkaphaaX0
import Derived.Test.YtmkhmlgihkaphaaX1
import Derived.Test.YtmkhmlgihkaphaaX2
import Derived.Test.YtmkhmlgihkaphaaX3
import Derived.Test.YtmkhmlgihkaphaaX4
namespace Go.Proofs.Ytmkhmlgihkaphaa.X
open Go.RowKit Go.Proofs.YtmkhmlgihkaphaaW.PrintWords Go.Proofs.YtmkhmlgihkaphaaW.PrintLast Go.Proofs.YtmkhmlgihkaphaaW.PrintMore
attribute [local go_sem] max2_int min2_int max_two min_two max_three min_three max_four min_four   -- for this text's walks alone
set_option linter.unusedVariables false
set_option linter.unusedSimpArgs false

/-! ### field_GetLittle: function 27 -/
def field_GetLittle.f (k : Nat) (a0 : ByteArray) (a1 : Int) (a2 : Int) : Option (Int × Int) :=
  if a0.size ≤ 9223372036854775807 then (if (a2 < 1 ∨ 7 < a2) ∨ a1 < 0 then some (0, 4) else if (a0.size : Int) < a1 ∨ (a0.size : Int) - a1 < a2 then some (0, 1)
    else (field_number.f k (bytesOf (a0.extract a1.toNat (a1 + a2).toNat)).reverse).bind fun t => some (t, 0)) else none
theorem field_GetLittle.mono : ∀ a0 a1 a2 k, LeO (field_GetLittle.f k a0 a1 a2) (field_GetLittle.f (k + 1) a0 a1 a2) := by
  intro a0 a1 a2 k
  unfold field_GetLittle.f
  refine LeO.ite ?_ (LeO.none _)
  refine LeO.ite (LeO.refl _) ?_
  refine LeO.ite (LeO.refl _) ?_
  exact LeO.bind (field_number.mono _ k) (fun _ => LeO.refl _)
set_option maxHeartbeats 8000000 in
set_option maxRecDepth 100000 in
theorem field_GetLittle.calls (k : Nat) (a0 : ByteArray) (a1 : Int) (a2 : Int) (r1 : Int) (r2 : Int) (w : World) (h : field_GetLittle.f k a0 a1 a2 = some (r1, r2)) :
    Calls Try.prog 27 #[.string a0, .int .i64 a1, .int .i64 a2] w fun e w' => e = .returned (.tuple #[.int .i64 r1, .int .i64 r2]) ∧ Below w.heap.size w w' := by
  unfold field_GetLittle.f at h
  have hsz : a0.size ≤ 9223372036854775807 := by
    rcases Nat.lt_or_ge 9223372036854775807 a0.size with h' | h'
    · rw [if_neg (by omega)] at h; cases h
    · exact h'
  rw [if_pos hsz] at h
  have hs0 : (0 : Int) ≤ (a0.size : Int) := by omega
  by_cases c1 : (a2 < 1 ∨ 7 < a2) ∨ a1 < 0
  · rw [if_pos c1] at h
    simp only [Option.some.injEq, Prod.mk.injEq] at h
    obtain ⟨rfl, rfl⟩ := h
    have HR := fun W => field_part.range a0 a1 a2 W c1
    have HRA := Aside0.mk HR
    clear HR
    by_cases hv : 1 ≤ a2 ∧ a2 ≤ 7
    · have ha : decide (0 ≤ a1) = false := decide_eq_false (by omega)
      have A1 := Aside0.mk (show field_valid.f a2 = some true by unfold field_valid.f; rw [if_pos hv.1]; simp [hv.2])
      clear hv c1
      go_enter Try.func27, Try.ntmps27
      go_wp2_with (first | (go_at_call 29; (with_reducible refine (field_valid.calls a2 true _ A1.out).mono ?_); rintro e w' ⟨rfl, ⟨nd, rfl⟩⟩) | (go_at_call 36; refine (HRA.out _).mono ?_; rintro e w1 ⟨rfl, hb⟩) | (go_at_call 31; refine (rev_empty _).mono ?_; rintro e w3 ⟨rfl, rfl⟩) | (go_at_call 33; refine (calls_of_args (args' := #[.slice none ([] : List Int).length 0]) rfl (field_number.calls 1 none 0 [] 0 _ (Kd.C_nil _ _) (Nat.zero_le _) (by decide))).mono ?_; rintro e w2 ⟨rfl, ⟨nd2, rfl⟩⟩))
      go_ret2
      exact ⟨rfl, pw_below_drewN (below_step (pw_below_drewN (Below.refl _ _) _) hb) _⟩
    · have A1 := Aside0.mk (show field_valid.f a2 = some false by unfold field_valid.f; split <;> simp; omega)
      clear hv c1
      go_enter Try.func27, Try.ntmps27
      go_wp2_with (first | (go_at_call 29; (with_reducible refine (field_valid.calls a2 false _ A1.out).mono ?_); rintro e w' ⟨rfl, ⟨nd, rfl⟩⟩) | (go_at_call 36; refine (HRA.out _).mono ?_; rintro e w1 ⟨rfl, hb⟩) | (go_at_call 31; refine (rev_empty _).mono ?_; rintro e w3 ⟨rfl, rfl⟩) | (go_at_call 33; refine (calls_of_args (args' := #[.slice none ([] : List Int).length 0]) rfl (field_number.calls 1 none 0 [] 0 _ (Kd.C_nil _ _) (Nat.zero_le _) (by decide))).mono ?_; rintro e w2 ⟨rfl, ⟨nd2, rfl⟩⟩))
      go_ret2
      exact ⟨rfl, pw_below_drewN (below_step (pw_below_drewN (Below.refl _ _) _) hb) _⟩
  · rw [if_neg c1] at h
    have A1 := Aside0.mk (show field_valid.f a2 = some true by unfold field_valid.f; rw [if_pos (by omega)]; simp; omega)
    have ha : decide (0 ≤ a1) = true := decide_eq_true (by omega)
    by_cases c2 : (a0.size : Int) < a1 ∨ (a0.size : Int) - a1 < a2
    · rw [if_pos c2] at h
      simp only [Option.some.injEq, Prod.mk.injEq] at h
      obtain ⟨rfl, rfl⟩ := h
      have HR := fun W => field_part.short a0 a1 a2 W (by omega) (by omega) (by omega) hsz c2
      have HRA := Aside0.mk HR
      clear HR
      by_cases hb : a1 ≤ (a0.size : Int)
      · have hc : decide (a1 ≤ (a0.size : Int)) = true := decide_eq_true hb
        have hd : decide (a2 ≤ (a0.size : Int) - a1) = false := decide_eq_false (by omega)
        have ha1 : 0 ≤ a1 := by omega
        clear c1 c2
        go_enter Try.func27, Try.ntmps27
        go_wp2_with (first | (go_at_call 29; (with_reducible refine (field_valid.calls a2 true _ A1.out).mono ?_); rintro e w' ⟨rfl, ⟨nd, rfl⟩⟩) | (go_at_call 36; refine (HRA.out _).mono ?_; rintro e w1 ⟨rfl, hb⟩) | (go_at_call 31; refine (rev_empty _).mono ?_; rintro e w3 ⟨rfl, rfl⟩) | (go_at_call 33; refine (calls_of_args (args' := #[.slice none ([] : List Int).length 0]) rfl (field_number.calls 1 none 0 [] 0 _ (Kd.C_nil _ _) (Nat.zero_le _) (by decide))).mono ?_; rintro e w2 ⟨rfl, ⟨nd2, rfl⟩⟩))
        go_ret2
        exact ⟨rfl, pw_below_drewN (below_step (pw_below_drewN (Below.refl _ _) _) hb) _⟩
      · have hc : decide (a1 ≤ (a0.size : Int)) = false := decide_eq_false hb
        clear c1 c2 hb
        go_enter Try.func27, Try.ntmps27
        go_wp2_with (first | (go_at_call 29; (with_reducible refine (field_valid.calls a2 true _ A1.out).mono ?_); rintro e w' ⟨rfl, ⟨nd, rfl⟩⟩) | (go_at_call 36; refine (HRA.out _).mono ?_; rintro e w1 ⟨rfl, hb⟩) | (go_at_call 31; refine (rev_empty _).mono ?_; rintro e w3 ⟨rfl, rfl⟩) | (go_at_call 33; refine (calls_of_args (args' := #[.slice none ([] : List Int).length 0]) rfl (field_number.calls 1 none 0 [] 0 _ (Kd.C_nil _ _) (Nat.zero_le _) (by decide))).mono ?_; rintro e w2 ⟨rfl, ⟨nd2, rfl⟩⟩))
        go_ret2
        exact ⟨rfl, pw_below_drewN (below_step (pw_below_drewN (Below.refl _ _) _) hb) _⟩
    · rw [if_neg c2] at h
      replace h := Option.bind_eq_some_iff.mp h
      obtain ⟨t, A20, h⟩ := h
      simp only [Option.some.injEq, Prod.mk.injEq] at h
      obtain ⟨rfl, rfl⟩ := h
      have A2 := Aside0.mk A20
      clear A20
      have hc : decide (a1 ≤ (a0.size : Int)) = true := decide_eq_true (by omega)
      have hd : decide (a2 ≤ (a0.size : Int) - a1) = true := decide_eq_true (by omega)
      have h1 : 0 ≤ a1 := by omega
      have h2 : a1 ≤ a1 + a2 := by omega
      have h3 : a1 + a2 ≤ (a0.size : Int) := by omega
      have h4 : a1 ≤ (a0.size : Int) := by omega
      have HX := Aside0.mk (show (((a0.extract a1.toNat (a1 + a2).toNat).size : Nat) : Int) = a2 by rw [ByteArray.size_extract]; omega)
      have h5 : 1 ≤ a2 := by omega
      have h6 : a2 ≤ 7 := by omega
      have HW := Aside0.mk (fun W => field_part.whole (a0.extract a1.toNat (a1 + a2).toNat) a2 W (by omega) (by omega) HX.out)
      clear c1 c2
      go_enter Try.func27, Try.ntmps27
      go_wp2_with (first | (go_at_call 29; (with_reducible refine (field_valid.calls a2 true _ A1.out).mono ?_); rintro e w' ⟨rfl, ⟨nd, rfl⟩⟩) | (go_at_call 36; refine (HW.out _).mono ?_; rintro e w1 ⟨W1, rfl, hb, rfl⟩) | (go_at_call 31; refine (calls_of_args (args' := #[.slice (some ⟨W1.heap.size, 0, none⟩) (a0.extract a1.toNat (a1 + a2).toNat).size (a0.extract a1.toNat (a1 + a2).toNat).size]) (by rw [show (a0.extract a1.toNat (a1 + a2).toNat).size = (a1 + a2).toNat - a1.toNat from by rw [ByteArray.size_extract]; omega]) (rev_calls W1.heap.size (a0.extract a1.toNat (a1 + a2).toNat).size (a0.extract a1.toNat (a1 + a2).toNat).size (bytesOf (a0.extract a1.toNat (a1 + a2).toNat)) (Lib.bytesWorld W1 5 (a0.extract a1.toNat (a1 + a2).toNat)) (bytes_holds W1 5 (a0.extract a1.toNat (a1 + a2).toNat) (by have := HX.out; omega)) (bytesOf_length _) (by have := HX.out; omega))).mono ?_; rintro e w2 ⟨rfl, hr, hb2⟩; have HRR := Aside0.mk hr; clear hr; have HB2 := Aside0.mk hb2; clear hb2) | (go_at_call 33; refine (calls_of_args (args' := #[.slice (some ⟨W1.heap.size, 0, none⟩) (bytesOf (a0.extract a1.toNat (a1 + a2).toNat)).reverse.length (a0.extract a1.toNat (a1 + a2).toNat).size]) (by rw [List.length_reverse, bytesOf_length, show (a0.extract a1.toNat (a1 + a2).toNat).size = (a1 + a2).toNat - a1.toNat from by rw [ByteArray.size_extract]; omega]) (field_number.calls k _ _ (bytesOf (a0.extract a1.toNat (a1 + a2).toNat)).reverse t _ (Kd.C_of_reads (d := (0 : Int)) (h1 := fun _ => rfl) (by rw [List.length_reverse, bytesOf_length]; exact HRR.out)) (by rw [List.length_reverse, bytesOf_length]; exact Nat.le_refl _) A2.out)).mono ?_; rintro e w3 ⟨rfl, ⟨nd2, rfl⟩⟩))
      go_ret2
      exact ⟨rfl, pw_below_drewN ((bytes_below (below_step (pw_below_drewN (Below.refl _ _) _) hb) (below_size (below_step (pw_below_drewN (Below.refl _ _) _) hb)) 5 _).trans (HB2.out _ (below_size (below_step (pw_below_drewN (Below.refl _ _) _) hb)))) _⟩

/-! ### intrusionref01_GetLittle: function 28 -/
def intrusionref01_GetLittle.f (k : Nat) (a0 : ByteArray) (a1 : Int) (a2 : Int) : Option (Int × Int) := (intrusionref01_Get.f k a0 a1 a2).bind fun bt214 => (if bt214.2 = 0 then (if 0 ≤ a1 then (if a1 ≤ (wrap64 (a1 + a2)) then (if (wrap64 (a1 + a2)) ≤ (a0.size : Int) then ((intrusionref01_Reverse.f k (a0.extract (a1 : Int).toNat ((wrap64 (a1 + a2)) : Int).toNat)).bind fun t216 => ((intrusionref01_Value.f k t216).bind fun t217 => (some (t217, 0)))) else (none)) else (none)) else (none)) else (some (0, bt214.2)))
theorem intrusionref01_GetLittle.mono : ∀ a0 a1 a2 k, LeO (intrusionref01_GetLittle.f k a0 a1 a2) (intrusionref01_GetLittle.f (k + 1) a0 a1 a2) := by
  intro a0 a1 a2 k
  unfold intrusionref01_GetLittle.f
  repeat' first
      | (with_reducible exact intrusionref01_Get.mono _ _ _ _)
      | (with_reducible exact intrusionref01_Reverse.mono _ _)
      | (with_reducible exact intrusionref01_Value.mono _ _)
      | (with_reducible exact LeO.refl _)
      | (with_reducible exact LeO.none _)
      | (with_reducible refine LeO.ite ?_ ?_)
      | (with_reducible refine LeO.bind ?_ (fun _ => ?_))
      | exact intrusionref01_Get.mono _ _ _ _
      | exact intrusionref01_Reverse.mono _ _
      | exact intrusionref01_Value.mono _ _
      | exact LeO.none _
      | refine LeO.ite ?_ ?_
      | refine LeO.bind ?_ (fun _ => ?_)
set_option maxHeartbeats 8000000 in
set_option maxRecDepth 100000 in
theorem intrusionref01_GetLittle.calls (k : Nat) (a0 : ByteArray) (a1 : Int) (a2 : Int) (r1 : Int) (r2 : Int) (w : World) (h : intrusionref01_GetLittle.f k a0 a1 a2 = some (r1, r2)) :
    Calls Try.prog 28 #[.string a0, .int .i64 a1, .int .i64 a2] w fun e w' => e = .returned (.tuple #[.int .i64 r1, .int .i64 r2]) ∧ Below w.heap.size w w' := by
  have HB := Aside0.mk (Below.refl w.heap.size w)
  have H : ((intrusionref01_Get.f k a0 a1 a2).bind fun bt214 => (if bt214.2 = 0 then (if 0 ≤ a1 then (if a1 ≤ (wrap64 (a1 + a2)) then (if (wrap64 (a1 + a2)) ≤ (a0.size : Int) then ((intrusionref01_Reverse.f k (a0.extract (a1 : Int).toNat ((wrap64 (a1 + a2)) : Int).toNat)).bind fun t216 => ((intrusionref01_Value.f k t216).bind fun t217 => (some (t217, 0)))) else (none)) else (none)) else (none)) else (some (0, bt214.2)))) = some (r1, r2) := h
  clear h
  replace H := Option.bind_eq_some_iff.mp H
  obtain ⟨⟨t214, t215⟩, A40, H⟩ := H
  replace H : (if t215 = 0 then (if 0 ≤ a1 then (if a1 ≤ (wrap64 (a1 + a2)) then (if (wrap64 (a1 + a2)) ≤ (a0.size : Int) then ((intrusionref01_Reverse.f k (a0.extract (a1 : Int).toNat ((wrap64 (a1 + a2)) : Int).toNat)).bind fun t216 => ((intrusionref01_Value.f k t216).bind fun t217 => (some (t217, 0)))) else (none)) else (none)) else (none)) else (some (0, t215))) = some (r1, r2) := H
  have A4 := Aside0.mk A40
  clear A40
  by_cases c5 : t215 = 0
  · rw [if_pos c5] at H
    have c5b0 : (t215 == 0) = true := beq_iff_eq.mpr c5
    have c5b1 : (t215 != 0) = false := bne_eq_false_iff_eq.mpr c5
    clear c5
    by_cases c6 : 0 ≤ a1
    · rw [if_pos c6] at H
      have c6b0 := eq_true c6
      have c6b1 : decide (0 ≤ a1) = true := decide_eq_true c6
      clear c6
      by_cases c7 : a1 ≤ (wrap64 (a1 + a2))
      · rw [if_pos c7] at H
        have c7b0 := eq_true c7
        have c7b1 : decide (a1 ≤ (wrap64 (a1 + a2))) = true := decide_eq_true c7
        by_cases c8 : (wrap64 (a1 + a2)) ≤ (a0.size : Int)
        · rw [if_pos c8] at H
          have c8b0 := eq_true c8
          have c8b1 : decide ((wrap64 (a1 + a2)) ≤ (a0.size : Int)) = true := decide_eq_true c8
          replace H := Option.bind_eq_some_iff.mp H
          obtain ⟨t216, A90, H⟩ := H
          replace H : ((intrusionref01_Value.f k t216).bind fun t217 => (some (t217, 0))) = some (r1, r2) := H
          have A9 := Aside0.mk A90
          clear A90
          replace H := Option.bind_eq_some_iff.mp H
          obtain ⟨t217, A100, H⟩ := H
          replace H : (some (t217, 0)) = some (r1, r2) := H
          have A10 := Aside0.mk A100
          clear A100
          simp only [Option.some.injEq, Prod.mk.injEq] at H
          obtain ⟨rfl, rfl⟩ := H
          go_enter Try.func28, Try.ntmps28
          go_wp2_with (first | ((with_reducible refine gate_callee (f := 26) rfl ?_); refine goesL_ (some 14) rfl rfl Try.func26 (by kernel_rfl) rfl #[.string a0, .int .i64 a1, .int .i64 a2] rfl (by (try simp only [List.map_toArray, List.map_cons, List.map_nil]); first | done | rfl | (simp only [List.length_drop, List.length_take]; rfl)) ?_; (with_reducible refine (intrusionref01_Get.calls k a0 a1 a2 t214 t215 _ A4.out).mono ?_); rintro e w' ⟨rfl, ⟨nd, rfl⟩⟩; refine ⟨_, rfl, ?_⟩) | ((with_reducible refine gate_callee (f := 32) rfl ?_); refine goesL_ (some 26) rfl rfl Try.func32 (by kernel_rfl) rfl #[.string (a0.extract (a1 : Int).toNat ((wrap64 (a1 + a2)) : Int).toNat)] rfl (by (try simp only [List.map_toArray, List.map_cons, List.map_nil]); first | done | rfl | (simp only [List.length_drop, List.length_take]; rfl)) ?_; (with_reducible refine (intrusionref01_Reverse.calls k (a0.extract (a1 : Int).toNat ((wrap64 (a1 + a2)) : Int).toNat) t216 _ A9.out).mono ?_); rintro e w11 ⟨rfl, hb⟩; refine ⟨_, rfl, ?_⟩; have n0_ := Aside0.mk (below_step (by repeat (first | (with_reducible first | exact HB.out | apply below_alloc | apply pw_below_drewN | apply below_drew1) | exact HB.out)) hb); clear HB; have HB := n0_; clear n0_; (try clear hb); (try clear hb2); (try clear hk); (try clear hi)) | ((with_reducible refine gate_callee (f := 35) rfl ?_); refine goesL_ (some 27) rfl rfl Try.func35 (by kernel_rfl) rfl #[.string t216] rfl (by (try simp only [List.map_toArray, List.map_cons, List.map_nil]); first | done | rfl | (simp only [List.length_drop, List.length_take]; rfl)) ?_; (with_reducible refine (intrusionref01_Value.calls k t216 t217 _ A10.out).mono ?_); rintro e w' ⟨rfl, ⟨nd, rfl⟩⟩; refine ⟨_, rfl, ?_⟩))
          go_ret2
          exact ⟨by first | rfl | (simp [errW_none, errW_some] <;> rfl) | (simp [*, errW_none, errW_some] <;> rfl), by repeat (first | (with_reducible first | exact HB.out | apply below_alloc | apply pw_below_drewN | apply below_drew1) | exact HB.out)⟩
        · rw [if_neg c8] at H
          exact absurd H (by simp)
      · rw [if_neg c7] at H
        exact absurd H (by simp)
    · rw [if_neg c6] at H
      exact absurd H (by simp)
  · rw [if_neg c5] at H
    have c5b0 : (t215 == 0) = false := beq_eq_false_iff_ne.mpr c5
    have c5b1 : (t215 != 0) = true := bne_iff_ne.mpr c5
    simp only [Option.some.injEq, Prod.mk.injEq] at H
    obtain ⟨rfl, rfl⟩ := H
    go_enter Try.func28, Try.ntmps28
    go_wp2_with (first | ((with_reducible refine gate_callee (f := 26) rfl ?_); refine goesL_ (some 14) rfl rfl Try.func26 (by kernel_rfl) rfl #[.string a0, .int .i64 a1, .int .i64 a2] rfl (by (try simp only [List.map_toArray, List.map_cons, List.map_nil]); first | done | rfl | (simp only [List.length_drop, List.length_take]; rfl)) ?_; (with_reducible refine (intrusionref01_Get.calls k a0 a1 a2 t214 t215 _ A4.out).mono ?_); rintro e w' ⟨rfl, ⟨nd, rfl⟩⟩; refine ⟨_, rfl, ?_⟩))
    go_ret2
    exact ⟨by first | rfl | (simp [errW_none, errW_some] <;> rfl) | (simp [*, errW_none, errW_some] <;> rfl), by repeat (first | (with_reducible first | exact HB.out | apply below_alloc | apply pw_below_drewN | apply below_drew1) | exact HB.out)⟩

/-! ### intrusionlaw01_FieldGets: function 6 -/
def intrusionlaw01_FieldGets.f (k : Nat) (a0 : ByteArray) (a1 : Int) (a2 : Int) : Option (Bool) := if (a0.size : Int) > 200 then ((intrusionlaw01_awake.f k).bind fun t218 => (some t218)) else ((field_Get.f k a0 a1 a2).bind fun bt219 => ((intrusionref01_Get.f k a0 a1 a2).bind fun bt221 => ((field_GetLittle.f k a0 a1 a2).bind fun bt223 => ((intrusionref01_GetLittle.f k a0 a1 a2).bind fun bt225 => (if bt219.1 = bt221.1 then (if bt219.2 = bt221.2 then (if bt223.1 = bt225.1 then (if bt223.2 = bt225.2 then ((intrusionlaw01_awake.f k).bind fun t227 => (some t227)) else (some false)) else (some false)) else (some false)) else (some false))))))
theorem intrusionlaw01_FieldGets.mono : ∀ a0 a1 a2 k, LeO (intrusionlaw01_FieldGets.f k a0 a1 a2) (intrusionlaw01_FieldGets.f (k + 1) a0 a1 a2) := by
  intro a0 a1 a2 k
  unfold intrusionlaw01_FieldGets.f
  repeat' first
      | (with_reducible exact field_Get.mono _ _ _ _)
      | (with_reducible exact field_GetLittle.mono _ _ _ _)
      | (with_reducible exact intrusionlaw01_awake.mono _)
      | (with_reducible exact intrusionref01_Get.mono _ _ _ _)
      | (with_reducible exact intrusionref01_GetLittle.mono _ _ _ _)
      | (with_reducible exact LeO.refl _)
      | (with_reducible exact LeO.none _)
      | (with_reducible refine LeO.ite ?_ ?_)
      | (with_reducible refine LeO.bind ?_ (fun _ => ?_))
      | exact field_Get.mono _ _ _ _
      | exact field_GetLittle.mono _ _ _ _
      | exact intrusionlaw01_awake.mono _
      | exact intrusionref01_Get.mono _ _ _ _
      | exact intrusionref01_GetLittle.mono _ _ _ _
      | exact LeO.none _
      | refine LeO.ite ?_ ?_
      | refine LeO.bind ?_ (fun _ => ?_)
set_option maxHeartbeats 8000000 in
set_option maxRecDepth 100000 in
theorem intrusionlaw01_FieldGets.calls (k : Nat) (a0 : ByteArray) (a1 : Int) (a2 : Int) (r : Bool) (w : World) (h : intrusionlaw01_FieldGets.f k a0 a1 a2 = some r) :
    Calls Try.prog 6 #[.string a0, .int .i64 a1, .int .i64 a2] w fun e w' => e = .returned (.bool r) ∧ Below w.heap.size w w' := by
  have HB := Aside0.mk (Below.refl w.heap.size w)
  have H : (if (a0.size : Int) > 200 then ((intrusionlaw01_awake.f k).bind fun t218 => (some t218)) else ((field_Get.f k a0 a1 a2).bind fun bt219 => ((intrusionref01_Get.f k a0 a1 a2).bind fun bt221 => ((field_GetLittle.f k a0 a1 a2).bind fun bt223 => ((intrusionref01_GetLittle.f k a0 a1 a2).bind fun bt225 => (if bt219.1 = bt221.1 then (if bt219.2 = bt221.2 then (if bt223.1 = bt225.1 then (if bt223.2 = bt225.2 then ((intrusionlaw01_awake.f k).bind fun t227 => (some t227)) else (some false)) else (some false)) else (some false)) else (some false))))))) = some r := h
  clear h
  by_cases c4 : (a0.size : Int) > 200
  · rw [if_pos c4] at H
    have c4b0 : decide (200 < (a0.size : Int)) = true := decide_eq_true c4
    have c4b1 : decide (200 < a0.size) = true := decide_eq_true (by omega)
    clear c4
    replace H := Option.bind_eq_some_iff.mp H
    obtain ⟨t218, A50, H⟩ := H
    replace H : (some t218) = some r := H
    have A5 := Aside0.mk A50
    clear A50
    obtain rfl := Option.some.inj H
    go_enter Try.func6, Try.ntmps6
    go_wp2_with (first | ((with_reducible refine gate_callee (f := 12) rfl ?_); refine goesL_ (some 18) rfl rfl Try.func12 (by kernel_rfl) rfl #[] rfl (by (try simp only [List.map_toArray, List.map_cons, List.map_nil]); first | done | rfl | (simp only [List.length_drop, List.length_take]; rfl)) ?_; (with_reducible refine (intrusionlaw01_awake.calls k  t218 _ A5.out).mono ?_); rintro e w6 ⟨rfl, hb⟩; refine ⟨_, rfl, ?_⟩; have n0_ := Aside0.mk (below_step (by repeat (first | (with_reducible first | exact HB.out | apply below_alloc | apply pw_below_drewN | apply below_drew1) | exact HB.out)) hb); clear HB; have HB := n0_; clear n0_; (try clear hb); (try clear hb2); (try clear hk); (try clear hi)))
    go_ret
    exact ⟨by first | rfl | (simp [errW_none, errW_some] <;> rfl) | (simp [*, errW_none, errW_some] <;> rfl), by repeat (first | (with_reducible first | exact HB.out | apply below_alloc | apply pw_below_drewN | apply below_drew1) | exact HB.out)⟩
  · rw [if_neg c4] at H
    have c4b0 : decide (200 < (a0.size : Int)) = false := decide_eq_false c4
    have c4b1 : decide (200 < a0.size) = false := decide_eq_false (by omega)
    clear c4
    replace H := Option.bind_eq_some_iff.mp H
    obtain ⟨⟨t219, t220⟩, A70, H⟩ := H
    replace H : ((intrusionref01_Get.f k a0 a1 a2).bind fun bt221 => ((field_GetLittle.f k a0 a1 a2).bind fun bt223 => ((intrusionref01_GetLittle.f k a0 a1 a2).bind fun bt225 => (if t219 = bt221.1 then (if t220 = bt221.2 then (if bt223.1 = bt225.1 then (if bt223.2 = bt225.2 then ((intrusionlaw01_awake.f k).bind fun t227 => (some t227)) else (some false)) else (some false)) else (some false)) else (some false))))) = some r := H
    have A7 := Aside0.mk A70
    clear A70
    replace H := Option.bind_eq_some_iff.mp H
    obtain ⟨⟨t221, t222⟩, A80, H⟩ := H
    replace H : ((field_GetLittle.f k a0 a1 a2).bind fun bt223 => ((intrusionref01_GetLittle.f k a0 a1 a2).bind fun bt225 => (if t219 = t221 then (if t220 = t222 then (if bt223.1 = bt225.1 then (if bt223.2 = bt225.2 then ((intrusionlaw01_awake.f k).bind fun t227 => (some t227)) else (some false)) else (some false)) else (some false)) else (some false)))) = some r := H
    have A8 := Aside0.mk A80
    clear A80
    replace H := Option.bind_eq_some_iff.mp H
    obtain ⟨⟨t223, t224⟩, A90, H⟩ := H
    replace H : ((intrusionref01_GetLittle.f k a0 a1 a2).bind fun bt225 => (if t219 = t221 then (if t220 = t222 then (if t223 = bt225.1 then (if t224 = bt225.2 then ((intrusionlaw01_awake.f k).bind fun t227 => (some t227)) else (some false)) else (some false)) else (some false)) else (some false))) = some r := H
    have A9 := Aside0.mk A90
    clear A90
    replace H := Option.bind_eq_some_iff.mp H
    obtain ⟨⟨t225, t226⟩, A100, H⟩ := H
    replace H : (if t219 = t221 then (if t220 = t222 then (if t223 = t225 then (if t224 = t226 then ((intrusionlaw01_awake.f k).bind fun t227 => (some t227)) else (some false)) else (some false)) else (some false)) else (some false)) = some r := H
    have A10 := Aside0.mk A100
    clear A100
    by_cases c11 : t219 = t221
    · rw [if_pos c11] at H
      have c11b0 : (t219 == t221) = true := beq_iff_eq.mpr c11
      have c11b1 : (t219 != t221) = false := bne_eq_false_iff_eq.mpr c11
      clear c11
      by_cases c12 : t220 = t222
      · rw [if_pos c12] at H
        have c12b0 : (t220 == t222) = true := beq_iff_eq.mpr c12
        have c12b1 : (t220 != t222) = false := bne_eq_false_iff_eq.mpr c12
        clear c12
        by_cases c13 : t223 = t225
        · rw [if_pos c13] at H
          have c13b0 : (t223 == t225) = true := beq_iff_eq.mpr c13
          have c13b1 : (t223 != t225) = false := bne_eq_false_iff_eq.mpr c13
          clear c13
          by_cases c14 : t224 = t226
          · rw [if_pos c14] at H
            have c14b0 : (t224 == t226) = true := beq_iff_eq.mpr c14
            have c14b1 : (t224 != t226) = false := bne_eq_false_iff_eq.mpr c14
            clear c14
            replace H := Option.bind_eq_some_iff.mp H
            obtain ⟨t227, A150, H⟩ := H
            replace H : (some t227) = some r := H
            have A15 := Aside0.mk A150
            clear A150
            obtain rfl := Option.some.inj H
            go_enter Try.func6, Try.ntmps6
            go_wp2_with (first | ((with_reducible refine gate_callee (f := 25) rfl ?_); refine goesL_ (some 23) rfl rfl Try.func25 (by kernel_rfl) rfl #[.string a0, .int .i64 a1, .int .i64 a2] rfl (by (try simp only [List.map_toArray, List.map_cons, List.map_nil]); first | done | rfl | (simp only [List.length_drop, List.length_take]; rfl)) ?_; (with_reducible refine (field_Get.calls k a0 a1 a2 t219 t220 _ A7.out).mono ?_); rintro e w16 ⟨rfl, hb⟩; refine ⟨_, rfl, ?_⟩; have n0_ := Aside0.mk (below_step (by repeat (first | (with_reducible first | exact HB.out | apply below_alloc | apply pw_below_drewN | apply below_drew1) | exact HB.out)) hb); clear HB; have HB := n0_; clear n0_; (try clear hb); (try clear hb2); (try clear hk); (try clear hi)) | ((with_reducible refine gate_callee (f := 26) rfl ?_); refine goesL_ (some 30) rfl rfl Try.func26 (by kernel_rfl) rfl #[.string a0, .int .i64 a1, .int .i64 a2] rfl (by (try simp only [List.map_toArray, List.map_cons, List.map_nil]); first | done | rfl | (simp only [List.length_drop, List.length_take]; rfl)) ?_; (with_reducible refine (intrusionref01_Get.calls k a0 a1 a2 t221 t222 _ A8.out).mono ?_); rintro e w' ⟨rfl, ⟨nd, rfl⟩⟩; refine ⟨_, rfl, ?_⟩) | ((with_reducible refine gate_callee (f := 27) rfl ?_); refine goesL_ (some 37) rfl rfl Try.func27 (by kernel_rfl) rfl #[.string a0, .int .i64 a1, .int .i64 a2] rfl (by (try simp only [List.map_toArray, List.map_cons, List.map_nil]); first | done | rfl | (simp only [List.length_drop, List.length_take]; rfl)) ?_; (with_reducible refine (field_GetLittle.calls k a0 a1 a2 t223 t224 _ A9.out).mono ?_); rintro e w17 ⟨rfl, hb⟩; refine ⟨_, rfl, ?_⟩; have n0_ := Aside0.mk (below_step (by repeat (first | (with_reducible first | exact HB.out | apply below_alloc | apply pw_below_drewN | apply below_drew1) | exact HB.out)) hb); clear HB; have HB := n0_; clear n0_; (try clear hb); (try clear hb2); (try clear hk); (try clear hi)) | ((with_reducible refine gate_callee (f := 28) rfl ?_); refine goesL_ (some 44) rfl rfl Try.func28 (by kernel_rfl) rfl #[.string a0, .int .i64 a1, .int .i64 a2] rfl (by (try simp only [List.map_toArray, List.map_cons, List.map_nil]); first | done | rfl | (simp only [List.length_drop, List.length_take]; rfl)) ?_; (with_reducible refine (intrusionref01_GetLittle.calls k a0 a1 a2 t225 t226 _ A10.out).mono ?_); rintro e w18 ⟨rfl, hb⟩; refine ⟨_, rfl, ?_⟩; have n0_ := Aside0.mk (below_step (by repeat (first | (with_reducible first | exact HB.out | apply below_alloc | apply pw_below_drewN | apply below_drew1) | exact HB.out)) hb); clear HB; have HB := n0_; clear n0_; (try clear hb); (try clear hb2); (try clear hk); (try clear hi)) | (go_at_call 12; (with_reducible refine (intrusionlaw01_awake.calls k  t227 _ A15.out).mono ?_); rintro e w19 ⟨rfl, hb⟩; have n0_ := Aside0.mk (below_step (by repeat (first | (with_reducible first | exact HB.out | apply below_alloc | apply pw_below_drewN | apply below_drew1) | exact HB.out)) hb); clear HB; have HB := n0_; clear n0_; (try clear hb); (try clear hb2); (try clear hk); (try clear hi)))
            go_ret
            exact ⟨by first | rfl | (simp [errW_none, errW_some] <;> rfl) | (simp [*, errW_none, errW_some] <;> rfl), by repeat (first | (with_reducible first | exact HB.out | apply below_alloc | apply pw_below_drewN | apply below_drew1) | exact HB.out)⟩
          · rw [if_neg c14] at H
            have c14b0 : (t224 == t226) = false := beq_eq_false_iff_ne.mpr c14
            have c14b1 : (t224 != t226) = true := bne_iff_ne.mpr c14
            obtain rfl := Option.some.inj H
            go_enter Try.func6, Try.ntmps6
            go_wp2_with (first | ((with_reducible refine gate_callee (f := 25) rfl ?_); refine goesL_ (some 23) rfl rfl Try.func25 (by kernel_rfl) rfl #[.string a0, .int .i64 a1, .int .i64 a2] rfl (by (try simp only [List.map_toArray, List.map_cons, List.map_nil]); first | done | rfl | (simp only [List.length_drop, List.length_take]; rfl)) ?_; (with_reducible refine (field_Get.calls k a0 a1 a2 t219 t220 _ A7.out).mono ?_); rintro e w20 ⟨rfl, hb⟩; refine ⟨_, rfl, ?_⟩; have n0_ := Aside0.mk (below_step (by repeat (first | (with_reducible first | exact HB.out | apply below_alloc | apply pw_below_drewN | apply below_drew1) | exact HB.out)) hb); clear HB; have HB := n0_; clear n0_; (try clear hb); (try clear hb2); (try clear hk); (try clear hi)) | ((with_reducible refine gate_callee (f := 26) rfl ?_); refine goesL_ (some 30) rfl rfl Try.func26 (by kernel_rfl) rfl #[.string a0, .int .i64 a1, .int .i64 a2] rfl (by (try simp only [List.map_toArray, List.map_cons, List.map_nil]); first | done | rfl | (simp only [List.length_drop, List.length_take]; rfl)) ?_; (with_reducible refine (intrusionref01_Get.calls k a0 a1 a2 t221 t222 _ A8.out).mono ?_); rintro e w' ⟨rfl, ⟨nd, rfl⟩⟩; refine ⟨_, rfl, ?_⟩) | ((with_reducible refine gate_callee (f := 27) rfl ?_); refine goesL_ (some 37) rfl rfl Try.func27 (by kernel_rfl) rfl #[.string a0, .int .i64 a1, .int .i64 a2] rfl (by (try simp only [List.map_toArray, List.map_cons, List.map_nil]); first | done | rfl | (simp only [List.length_drop, List.length_take]; rfl)) ?_; (with_reducible refine (field_GetLittle.calls k a0 a1 a2 t223 t224 _ A9.out).mono ?_); rintro e w21 ⟨rfl, hb⟩; refine ⟨_, rfl, ?_⟩; have n0_ := Aside0.mk (below_step (by repeat (first | (with_reducible first | exact HB.out | apply below_alloc | apply pw_below_drewN | apply below_drew1) | exact HB.out)) hb); clear HB; have HB := n0_; clear n0_; (try clear hb); (try clear hb2); (try clear hk); (try clear hi)) | ((with_reducible refine gate_callee (f := 28) rfl ?_); refine goesL_ (some 44) rfl rfl Try.func28 (by kernel_rfl) rfl #[.string a0, .int .i64 a1, .int .i64 a2] rfl (by (try simp only [List.map_toArray, List.map_cons, List.map_nil]); first | done | rfl | (simp only [List.length_drop, List.length_take]; rfl)) ?_; (with_reducible refine (intrusionref01_GetLittle.calls k a0 a1 a2 t225 t226 _ A10.out).mono ?_); rintro e w22 ⟨rfl, hb⟩; refine ⟨_, rfl, ?_⟩; have n0_ := Aside0.mk (below_step (by repeat (first | (with_reducible first | exact HB.out | apply below_alloc | apply pw_below_drewN | apply below_drew1) | exact HB.out)) hb); clear HB; have HB := n0_; clear n0_; (try clear hb); (try clear hb2); (try clear hk); (try clear hi)))
            go_ret
            exact ⟨by first | rfl | (simp [errW_none, errW_some] <;> rfl) | (simp [*, errW_none, errW_some] <;> rfl), by repeat (first | (with_reducible first | exact HB.out | apply below_alloc | apply pw_below_drewN | apply below_drew1) | exact HB.out)⟩
        · rw [if_neg c13] at H
          have c13b0 : (t223 == t225) = false := beq_eq_false_iff_ne.mpr c13
          have c13b1 : (t223 != t225) = true := bne_iff_ne.mpr c13
          obtain rfl := Option.some.inj H
          go_enter Try.func6, Try.ntmps6
          go_wp2_with (first | ((with_reducible refine gate_callee (f := 25) rfl ?_); refine goesL_ (some 23) rfl rfl Try.func25 (by kernel_rfl) rfl #[.string a0, .int .i64 a1, .int .i64 a2] rfl (by (try simp only [List.map_toArray, List.map_cons, List.map_nil]); first | done | rfl | (simp only [List.length_drop, List.length_take]; rfl)) ?_; (with_reducible refine (field_Get.calls k a0 a1 a2 t219 t220 _ A7.out).mono ?_); rintro e w23 ⟨rfl, hb⟩; refine ⟨_, rfl, ?_⟩; have n0_ := Aside0.mk (below_step (by repeat (first | (with_reducible first | exact HB.out | apply below_alloc | apply pw_below_drewN | apply below_drew1) | exact HB.out)) hb); clear HB; have HB := n0_; clear n0_; (try clear hb); (try clear hb2); (try clear hk); (try clear hi)) | ((with_reducible refine gate_callee (f := 26) rfl ?_); refine goesL_ (some 30) rfl rfl Try.func26 (by kernel_rfl) rfl #[.string a0, .int .i64 a1, .int .i64 a2] rfl (by (try simp only [List.map_toArray, List.map_cons, List.map_nil]); first | done | rfl | (simp only [List.length_drop, List.length_take]; rfl)) ?_; (with_reducible refine (intrusionref01_Get.calls k a0 a1 a2 t221 t222 _ A8.out).mono ?_); rintro e w' ⟨rfl, ⟨nd, rfl⟩⟩; refine ⟨_, rfl, ?_⟩) | ((with_reducible refine gate_callee (f := 27) rfl ?_); refine goesL_ (some 37) rfl rfl Try.func27 (by kernel_rfl) rfl #[.string a0, .int .i64 a1, .int .i64 a2] rfl (by (try simp only [List.map_toArray, List.map_cons, List.map_nil]); first | done | rfl | (simp only [List.length_drop, List.length_take]; rfl)) ?_; (with_reducible refine (field_GetLittle.calls k a0 a1 a2 t223 t224 _ A9.out).mono ?_); rintro e w24 ⟨rfl, hb⟩; refine ⟨_, rfl, ?_⟩; have n0_ := Aside0.mk (below_step (by repeat (first | (with_reducible first | exact HB.out | apply below_alloc | apply pw_below_drewN | apply below_drew1) | exact HB.out)) hb); clear HB; have HB := n0_; clear n0_; (try clear hb); (try clear hb2); (try clear hk); (try clear hi)) | ((with_reducible refine gate_callee (f := 28) rfl ?_); refine goesL_ (some 44) rfl rfl Try.func28 (by kernel_rfl) rfl #[.string a0, .int .i64 a1, .int .i64 a2] rfl (by (try simp only [List.map_toArray, List.map_cons, List.map_nil]); first | done | rfl | (simp only [List.length_drop, List.length_take]; rfl)) ?_; (with_reducible refine (intrusionref01_GetLittle.calls k a0 a1 a2 t225 t226 _ A10.out).mono ?_); rintro e w25 ⟨rfl, hb⟩; refine ⟨_, rfl, ?_⟩; have n0_ := Aside0.mk (below_step (by repeat (first | (with_reducible first | exact HB.out | apply below_alloc | apply pw_below_drewN | apply below_drew1) | exact HB.out)) hb); clear HB; have HB := n0_; clear n0_; (try clear hb); (try clear hb2); (try clear hk); (try clear hi)))
          go_ret
          exact ⟨by first | rfl | (simp [errW_none, errW_some] <;> rfl) | (simp [*, errW_none, errW_some] <;> rfl), by repeat (first | (with_reducible first | exact HB.out | apply below_alloc | apply pw_below_drewN | apply below_drew1) | exact HB.out)⟩
      · rw [if_neg c12] at H
        have c12b0 : (t220 == t222) = false := beq_eq_false_iff_ne.mpr c12
        have c12b1 : (t220 != t222) = true := bne_iff_ne.mpr c12
        obtain rfl := Option.some.inj H
        go_enter Try.func6, Try.ntmps6
        go_wp2_with (first | ((with_reducible refine gate_callee (f := 25) rfl ?_); refine goesL_ (some 23) rfl rfl Try.func25 (by kernel_rfl) rfl #[.string a0, .int .i64 a1, .int .i64 a2] rfl (by (try simp only [List.map_toArray, List.map_cons, List.map_nil]); first | done | rfl | (simp only [List.length_drop, List.length_take]; rfl)) ?_; (with_reducible refine (field_Get.calls k a0 a1 a2 t219 t220 _ A7.out).mono ?_); rintro e w26 ⟨rfl, hb⟩; refine ⟨_, rfl, ?_⟩; have n0_ := Aside0.mk (below_step (by repeat (first | (with_reducible first | exact HB.out | apply below_alloc | apply pw_below_drewN | apply below_drew1) | exact HB.out)) hb); clear HB; have HB := n0_; clear n0_; (try clear hb); (try clear hb2); (try clear hk); (try clear hi)) | ((with_reducible refine gate_callee (f := 26) rfl ?_); refine goesL_ (some 30) rfl rfl Try.func26 (by kernel_rfl) rfl #[.string a0, .int .i64 a1, .int .i64 a2] rfl (by (try simp only [List.map_toArray, List.map_cons, List.map_nil]); first | done | rfl | (simp only [List.length_drop, List.length_take]; rfl)) ?_; (with_reducible refine (intrusionref01_Get.calls k a0 a1 a2 t221 t222 _ A8.out).mono ?_); rintro e w' ⟨rfl, ⟨nd, rfl⟩⟩; refine ⟨_, rfl, ?_⟩) | ((with_reducible refine gate_callee (f := 27) rfl ?_); refine goesL_ (some 37) rfl rfl Try.func27 (by kernel_rfl) rfl #[.string a0, .int .i64 a1, .int .i64 a2] rfl (by (try simp only [List.map_toArray, List.map_cons, List.map_nil]); first | done | rfl | (simp only [List.length_drop, List.length_take]; rfl)) ?_; (with_reducible refine (field_GetLittle.calls k a0 a1 a2 t223 t224 _ A9.out).mono ?_); rintro e w27 ⟨rfl, hb⟩; refine ⟨_, rfl, ?_⟩; have n0_ := Aside0.mk (below_step (by repeat (first | (with_reducible first | exact HB.out | apply below_alloc | apply pw_below_drewN | apply below_drew1) | exact HB.out)) hb); clear HB; have HB := n0_; clear n0_; (try clear hb); (try clear hb2); (try clear hk); (try clear hi)) | ((with_reducible refine gate_callee (f := 28) rfl ?_); refine goesL_ (some 44) rfl rfl Try.func28 (by kernel_rfl) rfl #[.string a0, .int .i64 a1, .int .i64 a2] rfl (by (try simp only [List.map_toArray, List.map_cons, List.map_nil]); first | done | rfl | (simp only [List.length_drop, List.length_take]; rfl)) ?_; (with_reducible refine (intrusionref01_GetLittle.calls k a0 a1 a2 t225 t226 _ A10.out).mono ?_); rintro e w28 ⟨rfl, hb⟩; refine ⟨_, rfl, ?_⟩; have n0_ := Aside0.mk (below_step (by repeat (first | (with_reducible first | exact HB.out | apply below_alloc | apply pw_below_drewN | apply below_drew1) | exact HB.out)) hb); clear HB; have HB := n0_; clear n0_; (try clear hb); (try clear hb2); (try clear hk); (try clear hi)))
        go_ret
        exact ⟨by first | rfl | (simp [errW_none, errW_some] <;> rfl) | (simp [*, errW_none, errW_some] <;> rfl), by repeat (first | (with_reducible first | exact HB.out | apply below_alloc | apply pw_below_drewN | apply below_drew1) | exact HB.out)⟩
    · rw [if_neg c11] at H
      have c11b0 : (t219 == t221) = false := beq_eq_false_iff_ne.mpr c11
      have c11b1 : (t219 != t221) = true := bne_iff_ne.mpr c11
      obtain rfl := Option.some.inj H
      go_enter Try.func6, Try.ntmps6
      go_wp2_with (first | ((with_reducible refine gate_callee (f := 25) rfl ?_); refine goesL_ (some 23) rfl rfl Try.func25 (by kernel_rfl) rfl #[.string a0, .int .i64 a1, .int .i64 a2] rfl (by (try simp only [List.map_toArray, List.map_cons, List.map_nil]); first | done | rfl | (simp only [List.length_drop, List.length_take]; rfl)) ?_; (with_reducible refine (field_Get.calls k a0 a1 a2 t219 t220 _ A7.out).mono ?_); rintro e w29 ⟨rfl, hb⟩; refine ⟨_, rfl, ?_⟩; have n0_ := Aside0.mk (below_step (by repeat (first | (with_reducible first | exact HB.out | apply below_alloc | apply pw_below_drewN | apply below_drew1) | exact HB.out)) hb); clear HB; have HB := n0_; clear n0_; (try clear hb); (try clear hb2); (try clear hk); (try clear hi)) | ((with_reducible refine gate_callee (f := 26) rfl ?_); refine goesL_ (some 30) rfl rfl Try.func26 (by kernel_rfl) rfl #[.string a0, .int .i64 a1, .int .i64 a2] rfl (by (try simp only [List.map_toArray, List.map_cons, List.map_nil]); first | done | rfl | (simp only [List.length_drop, List.length_take]; rfl)) ?_; (with_reducible refine (intrusionref01_Get.calls k a0 a1 a2 t221 t222 _ A8.out).mono ?_); rintro e w' ⟨rfl, ⟨nd, rfl⟩⟩; refine ⟨_, rfl, ?_⟩) | ((with_reducible refine gate_callee (f := 27) rfl ?_); refine goesL_ (some 37) rfl rfl Try.func27 (by kernel_rfl) rfl #[.string a0, .int .i64 a1, .int .i64 a2] rfl (by (try simp only [List.map_toArray, List.map_cons, List.map_nil]); first | done | rfl | (simp only [List.length_drop, List.length_take]; rfl)) ?_; (with_reducible refine (field_GetLittle.calls k a0 a1 a2 t223 t224 _ A9.out).mono ?_); rintro e w30 ⟨rfl, hb⟩; refine ⟨_, rfl, ?_⟩; have n0_ := Aside0.mk (below_step (by repeat (first | (with_reducible first | exact HB.out | apply below_alloc | apply pw_below_drewN | apply below_drew1) | exact HB.out)) hb); clear HB; have HB := n0_; clear n0_; (try clear hb); (try clear hb2); (try clear hk); (try clear hi)) | ((with_reducible refine gate_callee (f := 28) rfl ?_); refine goesL_ (some 44) rfl rfl Try.func28 (by kernel_rfl) rfl #[.string a0, .int .i64 a1, .int .i64 a2] rfl (by (try simp only [List.map_toArray, List.map_cons, List.map_nil]); first | done | rfl | (simp only [List.length_drop, List.length_take]; rfl)) ?_; (with_reducible refine (intrusionref01_GetLittle.calls k a0 a1 a2 t225 t226 _ A10.out).mono ?_); rintro e w31 ⟨rfl, hb⟩; refine ⟨_, rfl, ?_⟩; have n0_ := Aside0.mk (below_step (by repeat (first | (with_reducible first | exact HB.out | apply below_alloc | apply pw_below_drewN | apply below_drew1) | exact HB.out)) hb); clear HB; have HB := n0_; clear n0_; (try clear hb); (try clear hb2); (try clear hk); (try clear hi)))
      go_ret
      exact ⟨by first | rfl | (simp [errW_none, errW_some] <;> rfl) | (simp [*, errW_none, errW_some] <;> rfl), by repeat (first | (with_reducible first | exact HB.out | apply below_alloc | apply pw_below_drewN | apply below_drew1) | exact HB.out)⟩

/-! ### intrusionlaw01_FieldRoundTrip: function 7 -/
mutual
def intrusionlaw01_FieldRoundTrip.j0 : Nat → Int → ByteArray → ByteArray → Bool → Int → ByteArray → ByteArray → Option (Bool)
  | 0, _, _, _, _, _, _, _ => none
  | k + 1, x1, x5, x6, x27, x229000, x229001, x229002 => if x27 = true then ((intrusionlaw01_awake.f k).bind fun t229 => (some t229)) else (if 0 ≤ (wrap64 (8 * (wrap64 (7 - (wrap64 (1 + (Int.tmod (wrap64 (x229000)) 7))))))) then ((field_Put.f k (shr .i64 (wrap64 (x1 / 256)) (wrap64 (8 * (wrap64 (7 - (wrap64 (1 + (Int.tmod (wrap64 (x229000)) 7)))))))) (wrap64 (1 + (Int.tmod (wrap64 (x229000)) 7)))).bind fun t230 => ((field_PutLittle.f k (shr .i64 (wrap64 (x1 / 256)) (wrap64 (8 * (wrap64 (7 - (wrap64 (1 + (Int.tmod (wrap64 (x229000)) 7)))))))) (wrap64 (1 + (Int.tmod (wrap64 (x229000)) 7)))).bind fun t231 => (if (t230.size : Int) = (wrap64 (1 + (Int.tmod (wrap64 (x229000)) 7))) then (intrusionlaw01_FieldRoundTrip.j1 k x5 x6 (wrap64 (1 + (Int.tmod (wrap64 (x229000)) 7))) (shr .i64 (wrap64 (x1 / 256)) (wrap64 (8 * (wrap64 (7 - (wrap64 (1 + (Int.tmod (wrap64 (x229000)) 7)))))))) t230 t231 ((t231.size : Int) != (wrap64 (1 + (Int.tmod (wrap64 (x229000)) 7))))) else (intrusionlaw01_FieldRoundTrip.j1 k x5 x6 (wrap64 (1 + (Int.tmod (wrap64 (x229000)) 7))) (shr .i64 (wrap64 (x1 / 256)) (wrap64 (8 * (wrap64 (7 - (wrap64 (1 + (Int.tmod (wrap64 (x229000)) 7)))))))) t230 t231 true)))) else (none))
def intrusionlaw01_FieldRoundTrip.j1 : Nat → ByteArray → ByteArray → Int → Int → ByteArray → ByteArray → Bool → Option (Bool)
  | 0, _, _, _, _, _, _, _ => none
  | k + 1, x5, x6, x7, x8, x9, x10, x56 => if x56 = true then (some false) else (intrusionlaw01_FieldRoundTrip.l0 k x5 x6 x7 x8 x9 x10 0)
def intrusionlaw01_FieldRoundTrip.l0 : Nat → ByteArray → ByteArray → Int → Int → ByteArray → ByteArray → Int → Option (Bool)
  | 0, _, _, _, _, _, _, _ => none
  | k + 1, x5, x6, x7, x8, x9, x10, x11 => if x11 < x7 then (if 0 ≤ x11 then (if x11 < (x9.size : Int) then (if 0 ≤ (wrap64 ((wrap64 (x7 - 1)) - x11)) then (if (wrap64 ((wrap64 (x7 - 1)) - x11)) < (x10.size : Int) then (if (bt x9 x11) = (bt x10 (wrap64 ((wrap64 (x7 - 1)) - x11))) then (intrusionlaw01_FieldRoundTrip.l0 k x5 x6 x7 x8 x9 x10 (wrap64 (x11 + 1))) else (some false)) else (none)) else (none)) else (none)) else (none)) else (if x5.size + x9.size ≤ 9223372036854775807 then (if (x5 ++ x9).size + x6.size ≤ 9223372036854775807 then ((field_Get.f k ((x5 ++ x9) ++ x6) (x5.size : Int) x7).bind fun bt232 => (if x5.size + x10.size ≤ 9223372036854775807 then (if (x5 ++ x10).size + x6.size ≤ 9223372036854775807 then ((field_GetLittle.f k ((x5 ++ x10) ++ x6) (x5.size : Int) x7).bind fun bt234 => (if bt232.2 = 0 then (if bt234.2 = 0 then (if bt232.1 = x8 then (if bt234.1 = x8 then ((intrusionlaw01_awake.f k).bind fun t236 => (some t236)) else (some false)) else (some false)) else (some false)) else (some false))) else (none)) else (none))) else (none)) else (none))
end
def intrusionlaw01_FieldRoundTrip.f (k : Nat) (a0_0 : Int) (a0_1 : ByteArray) (a0_2 : ByteArray) (a1 : Int) : Option (Bool) := if (a0_1.size : Int) > 100 then (intrusionlaw01_FieldRoundTrip.j0 k a1 a0_1 a0_2 true a0_0 a0_1 a0_2) else (intrusionlaw01_FieldRoundTrip.j0 k a1 a0_1 a0_2 (decide ((a0_2.size : Int) > 100)) a0_0 a0_1 a0_2)
theorem intrusionlaw01_FieldRoundTrip.mono_l : ∀ k, (∀ y0 y1 y2 y3 y4 y5 y6, LeO (intrusionlaw01_FieldRoundTrip.j0 k y0 y1 y2 y3 y4 y5 y6) (intrusionlaw01_FieldRoundTrip.j0 (k + 1) y0 y1 y2 y3 y4 y5 y6)) ∧ (∀ y0 y1 y2 y3 y4 y5 y6, LeO (intrusionlaw01_FieldRoundTrip.j1 k y0 y1 y2 y3 y4 y5 y6) (intrusionlaw01_FieldRoundTrip.j1 (k + 1) y0 y1 y2 y3 y4 y5 y6)) ∧ (∀ y0 y1 y2 y3 y4 y5 y6, LeO (intrusionlaw01_FieldRoundTrip.l0 k y0 y1 y2 y3 y4 y5 y6) (intrusionlaw01_FieldRoundTrip.l0 (k + 1) y0 y1 y2 y3 y4 y5 y6))
  | 0 => ⟨fun _ _ _ _ _ _ _ r h => by simp [intrusionlaw01_FieldRoundTrip.j0] at h, fun _ _ _ _ _ _ _ r h => by simp [intrusionlaw01_FieldRoundTrip.j1] at h, fun _ _ _ _ _ _ _ r h => by simp [intrusionlaw01_FieldRoundTrip.l0] at h⟩
  | k + 1 => by
    obtain ⟨ih0, ih1, ih2⟩ := intrusionlaw01_FieldRoundTrip.mono_l k
    refine ⟨?_, ?_, ?_⟩
    · intro y0 y1 y2 y3 y4 y5 y6
      unfold intrusionlaw01_FieldRoundTrip.j0
      repeat' first
      | (with_reducible exact ih0 _ _ _ _ _ _ _)
      | (with_reducible exact ih1 _ _ _ _ _ _ _)
      | (with_reducible exact ih2 _ _ _ _ _ _ _)
      | (with_reducible exact field_Get.mono _ _ _ _)
      | (with_reducible exact field_GetLittle.mono _ _ _ _)
      | (with_reducible exact field_Put.mono _ _ _)
      | (with_reducible exact field_PutLittle.mono _ _ _)
      | (with_reducible exact intrusionlaw01_awake.mono _)
      | (with_reducible exact LeO.refl _)
      | (with_reducible exact LeO.none _)
      | (with_reducible refine LeO.ite ?_ ?_)
      | (with_reducible refine LeO.bind ?_ (fun _ => ?_))
      | exact ih0 _ _ _ _ _ _ _
      | exact ih1 _ _ _ _ _ _ _
      | exact ih2 _ _ _ _ _ _ _
      | exact field_Get.mono _ _ _ _
      | exact field_GetLittle.mono _ _ _ _
      | exact field_Put.mono _ _ _
      | exact field_PutLittle.mono _ _ _
      | exact intrusionlaw01_awake.mono _
      | exact LeO.none _
      | refine LeO.ite ?_ ?_
      | refine LeO.bind ?_ (fun _ => ?_)
    · intro y0 y1 y2 y3 y4 y5 y6
      unfold intrusionlaw01_FieldRoundTrip.j1
      repeat' first
      | (with_reducible exact ih0 _ _ _ _ _ _ _)
      | (with_reducible exact ih1 _ _ _ _ _ _ _)
      | (with_reducible exact ih2 _ _ _ _ _ _ _)
      | (with_reducible exact field_Get.mono _ _ _ _)
      | (with_reducible exact field_GetLittle.mono _ _ _ _)
      | (with_reducible exact field_Put.mono _ _ _)
      | (with_reducible exact field_PutLittle.mono _ _ _)
      | (with_reducible exact intrusionlaw01_awake.mono _)
      | (with_reducible exact LeO.refl _)
      | (with_reducible exact LeO.none _)
      | (with_reducible refine LeO.ite ?_ ?_)
      | (with_reducible refine LeO.bind ?_ (fun _ => ?_))
      | exact ih0 _ _ _ _ _ _ _
      | exact ih1 _ _ _ _ _ _ _
      | exact ih2 _ _ _ _ _ _ _
      | exact field_Get.mono _ _ _ _
      | exact field_GetLittle.mono _ _ _ _
      | exact field_Put.mono _ _ _
      | exact field_PutLittle.mono _ _ _
      | exact intrusionlaw01_awake.mono _
      | exact LeO.none _
      | refine LeO.ite ?_ ?_
      | refine LeO.bind ?_ (fun _ => ?_)
    · intro y0 y1 y2 y3 y4 y5 y6
      unfold intrusionlaw01_FieldRoundTrip.l0
      repeat' first
      | (with_reducible exact ih0 _ _ _ _ _ _ _)
      | (with_reducible exact ih1 _ _ _ _ _ _ _)
      | (with_reducible exact ih2 _ _ _ _ _ _ _)
      | (with_reducible exact field_Get.mono _ _ _ _)
      | (with_reducible exact field_GetLittle.mono _ _ _ _)
      | (with_reducible exact field_Put.mono _ _ _)
      | (with_reducible exact field_PutLittle.mono _ _ _)
      | (with_reducible exact intrusionlaw01_awake.mono _)
      | (with_reducible exact LeO.refl _)
      | (with_reducible exact LeO.none _)
      | (with_reducible refine LeO.ite ?_ ?_)
      | (with_reducible refine LeO.bind ?_ (fun _ => ?_))
      | exact ih0 _ _ _ _ _ _ _
      | exact ih1 _ _ _ _ _ _ _
      | exact ih2 _ _ _ _ _ _ _
      | exact field_Get.mono _ _ _ _
      | exact field_GetLittle.mono _ _ _ _
      | exact field_Put.mono _ _ _
      | exact field_PutLittle.mono _ _ _
      | exact intrusionlaw01_awake.mono _
      | exact LeO.none _
      | refine LeO.ite ?_ ?_
      | refine LeO.bind ?_ (fun _ => ?_)
theorem intrusionlaw01_FieldRoundTrip.mono : ∀ a0 a1 a2 a3 k, LeO (intrusionlaw01_FieldRoundTrip.f k a0 a1 a2 a3) (intrusionlaw01_FieldRoundTrip.f (k + 1) a0 a1 a2 a3) := by
  intro a0 a1 a2 a3 k
  obtain ⟨ih0, ih1, ih2⟩ := intrusionlaw01_FieldRoundTrip.mono_l k
  unfold intrusionlaw01_FieldRoundTrip.f
  repeat' first
      | (with_reducible exact ih0 _ _ _ _ _ _ _)
      | (with_reducible exact ih1 _ _ _ _ _ _ _)
      | (with_reducible exact ih2 _ _ _ _ _ _ _)
      | (with_reducible exact field_Get.mono _ _ _ _)
      | (with_reducible exact field_GetLittle.mono _ _ _ _)
      | (with_reducible exact field_Put.mono _ _ _)
      | (with_reducible exact field_PutLittle.mono _ _ _)
      | (with_reducible exact intrusionlaw01_awake.mono _)
      | (with_reducible exact LeO.refl _)
      | (with_reducible exact LeO.none _)
      | (with_reducible refine LeO.ite ?_ ?_)
      | (with_reducible refine LeO.bind ?_ (fun _ => ?_))
      | exact ih0 _ _ _ _ _ _ _
      | exact ih1 _ _ _ _ _ _ _
      | exact ih2 _ _ _ _ _ _ _
      | exact field_Get.mono _ _ _ _
      | exact field_GetLittle.mono _ _ _ _
      | exact field_Put.mono _ _ _
      | exact field_PutLittle.mono _ _ _
      | exact intrusionlaw01_awake.mono _
      | exact LeO.none _
      | refine LeO.ite ?_ ?_
      | refine LeO.bind ?_ (fun _ => ?_)
set_option maxHeartbeats 8000000 in
set_option maxRecDepth 100000 in
theorem intrusionlaw01_FieldRoundTrip.calls (k : Nat) (a0_0 : Int) (a0_1 : ByteArray) (a0_2 : ByteArray) (a1 : Int) (r : Bool) (w : World) (h : intrusionlaw01_FieldRoundTrip.f k a0_0 a0_1 a0_2 a1 = some r) :
    Calls Try.prog 7 #[.agg #[.int .u8 a0_0, .string a0_1, .string a0_2], .int .u64 a1] w fun e w' => e = .returned (.bool r) ∧ Below w.heap.size w w' := by
  have hu45 := Try.underlying45
  have HB := Aside0.mk (Below.refl w.heap.size w)
  have H : (if (a0_1.size : Int) > 100 then (intrusionlaw01_FieldRoundTrip.j0 k a1 a0_1 a0_2 true a0_0 a0_1 a0_2) else (intrusionlaw01_FieldRoundTrip.j0 k a1 a0_1 a0_2 (decide ((a0_2.size : Int) > 100)) a0_0 a0_1 a0_2)) = some r := h
  clear h
  have HC3 := Aside0.mk H
  clear H
  go_enter Try.func7, Try.ntmps7
  go_upto_region 2 with (first | ((with_reducible refine gate_dst (N := 2) rfl ?_); (try (refine gate_guard (by rfl) ?_; dsimp only)); refine box_event ?hg (N := 2) ?hd (cs := #[.int .u8 a0_0, .string a0_1, .string a0_2]) (t := 45) ?hr ?_; (case hd => rfl); (case hg => rfl); (case hr => first | (go_simp; done) | (go_simp; rfl)); intro gb228 hg w4 hbox hb; have n0_ := Aside0.mk (below_step (by repeat (first | (with_reducible first | exact HB.out | apply below_alloc | apply pw_below_drewN | apply below_drew1) | exact HB.out)) hb); have n1_ := Aside0.mk (hbox); have n2_ := Aside0.mk ((by rw [hg]; exact (below_size (by repeat (first | (with_reducible first | exact HB.out | apply below_alloc | apply pw_below_drewN | apply below_drew1) | exact HB.out))) : w.heap.size ≤ gb228)); have n3_ := Aside0.mk ((by rw [hg]; exact (below_size (by repeat (first | (with_reducible first | exact HB.out | apply below_alloc | apply pw_below_drewN | apply below_drew1) | exact HB.out))) : w.heap.size ≤ gb228)); clear HB; have HB := n0_; have BK228 := n1_; have GW228 := n2_; have GE228 := n3_; clear n0_ n1_ n2_ n3_; clear hb hbox hg; have hcz5_0 : w4.cell? ⟨gb228, 0, none⟩ = some (.int .u8 a0_0) := (blk_cell BK228.out 0).trans rfl; have hcz5_1 : w4.cell? ⟨gb228, 1, none⟩ = some (.string a0_1) := (blk_cell BK228.out 1).trans rfl; have hcz5_2 : w4.cell? ⟨gb228, 2, none⟩ = some (.string a0_2) := (blk_cell BK228.out 2).trans rfl; have hfz5_0 := blk_frozen BK228.out 0; have hfz5_1 := blk_frozen BK228.out 1; have hfz5_2 := blk_frozen BK228.out 2))
  repeat (go_quiet (first | ((with_reducible refine gate_dst (N := 2) rfl ?_); (try (refine gate_guard (by rfl) ?_; dsimp only)); refine box_event ?hg (N := 2) ?hd (cs := #[.int .u8 a0_0, .string a0_1, .string a0_2]) (t := 45) ?hr ?_; (case hd => rfl); (case hg => rfl); (case hr => first | (go_simp; done) | (go_simp; rfl)); intro gb228 hg w4 hbox hb; have n0_ := Aside0.mk (below_step (by repeat (first | (with_reducible first | exact HB.out | apply below_alloc | apply pw_below_drewN | apply below_drew1) | exact HB.out)) hb); have n1_ := Aside0.mk (hbox); have n2_ := Aside0.mk ((by rw [hg]; exact (below_size (by repeat (first | (with_reducible first | exact HB.out | apply below_alloc | apply pw_below_drewN | apply below_drew1) | exact HB.out))) : w.heap.size ≤ gb228)); have n3_ := Aside0.mk ((by rw [hg]; exact (below_size (by repeat (first | (with_reducible first | exact HB.out | apply below_alloc | apply pw_below_drewN | apply below_drew1) | exact HB.out))) : w.heap.size ≤ gb228)); clear HB; have HB := n0_; have BK228 := n1_; have GW228 := n2_; have GE228 := n3_; clear n0_ n1_ n2_ n3_; clear hb hbox hg; have hcz5_0 : w4.cell? ⟨gb228, 0, none⟩ = some (.int .u8 a0_0) := (blk_cell BK228.out 0).trans rfl; have hcz5_1 : w4.cell? ⟨gb228, 1, none⟩ = some (.string a0_1) := (blk_cell BK228.out 1).trans rfl; have hcz5_2 : w4.cell? ⟨gb228, 2, none⟩ = some (.string a0_2) := (blk_cell BK228.out 2).trans rfl; have hfz5_0 := blk_frozen BK228.out 0; have hfz5_1 := blk_frozen BK228.out 1; have hfz5_2 := blk_frozen BK228.out 2)); go_upto_region 2 with (first | ((with_reducible refine gate_dst (N := 2) rfl ?_); (try (refine gate_guard (by rfl) ?_; dsimp only)); refine box_event ?hg (N := 2) ?hd (cs := #[.int .u8 a0_0, .string a0_1, .string a0_2]) (t := 45) ?hr ?_; (case hd => rfl); (case hg => rfl); (case hr => first | (go_simp; done) | (go_simp; rfl)); intro gb228 hg w4 hbox hb; have n0_ := Aside0.mk (below_step (by repeat (first | (with_reducible first | exact HB.out | apply below_alloc | apply pw_below_drewN | apply below_drew1) | exact HB.out)) hb); have n1_ := Aside0.mk (hbox); have n2_ := Aside0.mk ((by rw [hg]; exact (below_size (by repeat (first | (with_reducible first | exact HB.out | apply below_alloc | apply pw_below_drewN | apply below_drew1) | exact HB.out))) : w.heap.size ≤ gb228)); have n3_ := Aside0.mk ((by rw [hg]; exact (below_size (by repeat (first | (with_reducible first | exact HB.out | apply below_alloc | apply pw_below_drewN | apply below_drew1) | exact HB.out))) : w.heap.size ≤ gb228)); clear HB; have HB := n0_; have BK228 := n1_; have GW228 := n2_; have GE228 := n3_; clear n0_ n1_ n2_ n3_; clear hb hbox hg; have hcz5_0 : w4.cell? ⟨gb228, 0, none⟩ = some (.int .u8 a0_0) := (blk_cell BK228.out 0).trans rfl; have hcz5_1 : w4.cell? ⟨gb228, 1, none⟩ = some (.string a0_1) := (blk_cell BK228.out 1).trans rfl; have hcz5_2 : w4.cell? ⟨gb228, 2, none⟩ = some (.string a0_2) := (blk_cell BK228.out 2).trans rfl; have hfz5_0 := blk_frozen BK228.out 0; have hfz5_1 := blk_frozen BK228.out 1; have hfz5_2 := blk_frozen BK228.out 2)))
  (try simp only [Act.put, List.setIfInBounds_toArray, List.set_cons_zero, List.set_cons_succ])
  go_cut [27] (fun v27 wc => ∃ (kq : Nat) (x27_2 : Bool), v27 = .bool x27_2 ∧ Aside0 (intrusionlaw01_FieldRoundTrip.j0 kq a1 a0_1 a0_2 x27_2 a0_0 a0_1 a0_2 = some r) ∧ Aside0 (kq ≤ k) ∧ Aside0 (wc.heap[gb228]? = some (.cells #[.int .u8 a0_0, .string a0_1, .string a0_2] 45 (0, 0))) ∧ Aside0 (Below w.heap.size w wc))
  case first =>
    have H := HC3.out
    clear HC3
    by_cases c6 : (a0_1.size : Int) > 100
    · rw [if_pos c6] at H
      have c6b0 : decide (100 < (a0_1.size : Int)) = true := decide_eq_true c6
      have c6b1 : decide (100 < a0_1.size) = true := decide_eq_true (by omega)
      clear c6
      (first | rw [c6b0] | (simp only [i64_w, i32_w]; rw [c6b0]) | skip)
      have H' := Aside0.mk H
      clear H
      go_wp2
      repeat (go_quiet (fail); try go_wp2)
      go_meet
      case rel => exact ⟨_, (true), (by first | rfl | (simp; done) | (simp [*]; done)), H', ⟨by first | omega | exact Nat.le_refl _⟩, ⟨by (with_reducible repeat (first | refine blk_drewN ?_ _ | refine blk_drew ?_ | refine blk_alloc ?_ _)); exact BK228.out⟩, ⟨by repeat (first | (with_reducible first | exact HB.out | apply below_alloc | apply pw_below_drewN | apply below_drew1 | refine below_set ?_ GE228.out) | exact HB.out)⟩⟩
    · rw [if_neg c6] at H
      have c6b0 : decide (100 < (a0_1.size : Int)) = false := decide_eq_false c6
      have c6b1 : decide (100 < a0_1.size) = false := decide_eq_false (by omega)
      clear c6
      (first | rw [c6b0] | (simp only [i64_w, i32_w]; rw [c6b0]) | skip)
      have H' := Aside0.mk H
      clear H
      go_wp2
      repeat (go_quiet (fail); try go_wp2)
      go_meet
      case rel => exact ⟨_, (decide ((a0_2.size : Int) > 100)), (by first | rfl | (simp; done) | (simp [*]; done)), H', ⟨by first | omega | exact Nat.le_refl _⟩, ⟨by (with_reducible repeat (first | refine blk_drewN ?_ _ | refine blk_drew ?_ | refine blk_alloc ?_ _)); exact BK228.out⟩, ⟨by repeat (first | (with_reducible first | exact HB.out | apply below_alloc | apply pw_below_drewN | apply below_drew1 | refine below_set ?_ GE228.out) | exact HB.out)⟩⟩
  case rest =>
    clear HC3
    try clear p2
    try clear c6
    try clear c6b0
    try clear c6b1
    try clear hcz5_0
    try clear hcz5_1
    try clear hcz5_2
    try clear hfz5_0
    try clear hfz5_1
    try clear hfz5_2
    obtain ⟨kq, x27_2, rfl, HA, HJ2, BK228, HB⟩ := hcut
    cases kq with
    | zero => exact absurd HA.out (by simp [intrusionlaw01_FieldRoundTrip.j0])
    | succ kj2 =>
      have H := HA.out
      clear HA
      simp only [intrusionlaw01_FieldRoundTrip.j0] at H
      by_cases c7 : x27_2 = true
      · subst c7
        have H1 : ((intrusionlaw01_awake.f kj2).bind fun t229 => (some t229)) = some r := by rw [if_pos rfl] at H; exact H
        clear H
        have H := H1
        clear H1
        replace H := Option.bind_eq_some_iff.mp H
        obtain ⟨t229, A80, H⟩ := H
        replace H : (some t229) = some r := H
        have A8 := Aside0.mk A80
        clear A80
        obtain rfl := Option.some.inj H
        go_wp2_with (first | (go_at_call 12; (with_reducible refine (intrusionlaw01_awake.calls kj2  t229 _ A8.out).mono ?_); rintro e w9 ⟨rfl, hb⟩; have n0_ := Aside0.mk (blk_below (g := gb228) (o := .cells #[.int .u8 a0_0, .string a0_1, .string a0_2] 45 (0, 0)) (by (with_reducible repeat (first | refine blk_drewN ?_ _ | refine blk_drew ?_ | refine blk_alloc ?_ _)); exact BK228.out) hb); have n1_ := Aside0.mk (below_step (by repeat (first | (with_reducible first | exact HB.out | apply below_alloc | apply pw_below_drewN | apply below_drew1 | refine below_set ?_ GE228.out) | exact HB.out)) hb); clear BK228; clear HB; have BK228 := n0_; have HB := n1_; clear n0_ n1_; (try clear hb); (try clear hb2); (try clear hk); (try clear hi)))
        repeat (go_quiet (first | (go_at_call 12; (with_reducible refine (intrusionlaw01_awake.calls kj2  t229 _ A8.out).mono ?_); rintro e w9 ⟨rfl, hb⟩; have n0_ := Aside0.mk (blk_below (g := gb228) (o := .cells #[.int .u8 a0_0, .string a0_1, .string a0_2] 45 (0, 0)) (by (with_reducible repeat (first | refine blk_drewN ?_ _ | refine blk_drew ?_ | refine blk_alloc ?_ _)); exact BK228.out) hb); have n1_ := Aside0.mk (below_step (by repeat (first | (with_reducible first | exact HB.out | apply below_alloc | apply pw_below_drewN | apply below_drew1 | refine below_set ?_ GE228.out) | exact HB.out)) hb); clear BK228; clear HB; have BK228 := n0_; have HB := n1_; clear n0_ n1_; (try clear hb); (try clear hb2); (try clear hk); (try clear hi))); try go_wp2_with (first | (go_at_call 12; (with_reducible refine (intrusionlaw01_awake.calls kj2  t229 _ A8.out).mono ?_); rintro e w9 ⟨rfl, hb⟩; have n0_ := Aside0.mk (blk_below (g := gb228) (o := .cells #[.int .u8 a0_0, .string a0_1, .string a0_2] 45 (0, 0)) (by (with_reducible repeat (first | refine blk_drewN ?_ _ | refine blk_drew ?_ | refine blk_alloc ?_ _)); exact BK228.out) hb); have n1_ := Aside0.mk (below_step (by repeat (first | (with_reducible first | exact HB.out | apply below_alloc | apply pw_below_drewN | apply below_drew1 | refine below_set ?_ GE228.out) | exact HB.out)) hb); clear BK228; clear HB; have BK228 := n0_; have HB := n1_; clear n0_ n1_; (try clear hb); (try clear hb2); (try clear hk); (try clear hi))))
        go_ret
        exact ⟨by first | rfl | (simp [errW_none, errW_some] <;> rfl) | (simp [*, errW_none, errW_some] <;> rfl), by repeat (first | (with_reducible first | exact HB.out | apply below_alloc | apply pw_below_drewN | apply below_drew1 | refine below_set ?_ GE228.out) | exact HB.out)⟩
      · replace c7 := Bool.eq_false_iff.mpr c7
        subst c7
        have H1 : (if 0 ≤ (wrap64 (8 * (wrap64 (7 - (wrap64 (1 + (Int.tmod (wrap64 (a0_0)) 7))))))) then ((field_Put.f kj2 (shr .i64 (wrap64 (a1 / 256)) (wrap64 (8 * (wrap64 (7 - (wrap64 (1 + (Int.tmod (wrap64 (a0_0)) 7)))))))) (wrap64 (1 + (Int.tmod (wrap64 (a0_0)) 7)))).bind fun t230 => ((field_PutLittle.f kj2 (shr .i64 (wrap64 (a1 / 256)) (wrap64 (8 * (wrap64 (7 - (wrap64 (1 + (Int.tmod (wrap64 (a0_0)) 7)))))))) (wrap64 (1 + (Int.tmod (wrap64 (a0_0)) 7)))).bind fun t231 => (if (t230.size : Int) = (wrap64 (1 + (Int.tmod (wrap64 (a0_0)) 7))) then (intrusionlaw01_FieldRoundTrip.j1 kj2 a0_1 a0_2 (wrap64 (1 + (Int.tmod (wrap64 (a0_0)) 7))) (shr .i64 (wrap64 (a1 / 256)) (wrap64 (8 * (wrap64 (7 - (wrap64 (1 + (Int.tmod (wrap64 (a0_0)) 7)))))))) t230 t231 ((t231.size : Int) != (wrap64 (1 + (Int.tmod (wrap64 (a0_0)) 7))))) else (intrusionlaw01_FieldRoundTrip.j1 kj2 a0_1 a0_2 (wrap64 (1 + (Int.tmod (wrap64 (a0_0)) 7))) (shr .i64 (wrap64 (a1 / 256)) (wrap64 (8 * (wrap64 (7 - (wrap64 (1 + (Int.tmod (wrap64 (a0_0)) 7)))))))) t230 t231 true)))) else (none)) = some r := by rw [if_neg (show ¬ (false = true) by decide)] at H; exact H
        clear H
        have H := H1
        clear H1
        obtain ⟨ji10, hji10⟩ : ∃ j_ : Int, (wrap64 (8 * (wrap64 (7 - (wrap64 (1 + (Int.tmod (wrap64 (a0_0)) 7))))))) = j_ := ⟨_, rfl⟩
        replace H : (if 0 ≤ (ji10) then ((field_Put.f kj2 (shr .i64 (wrap64 (a1 / 256)) (ji10)) (wrap64 (1 + (Int.tmod (wrap64 (a0_0)) 7)))).bind fun t230 => ((field_PutLittle.f kj2 (shr .i64 (wrap64 (a1 / 256)) (ji10)) (wrap64 (1 + (Int.tmod (wrap64 (a0_0)) 7)))).bind fun t231 => (if (t230.size : Int) = (wrap64 (1 + (Int.tmod (wrap64 (a0_0)) 7))) then (intrusionlaw01_FieldRoundTrip.j1 kj2 a0_1 a0_2 (wrap64 (1 + (Int.tmod (wrap64 (a0_0)) 7))) (shr .i64 (wrap64 (a1 / 256)) (ji10)) t230 t231 ((t231.size : Int) != (wrap64 (1 + (Int.tmod (wrap64 (a0_0)) 7))))) else (intrusionlaw01_FieldRoundTrip.j1 kj2 a0_1 a0_2 (wrap64 (1 + (Int.tmod (wrap64 (a0_0)) 7))) (shr .i64 (wrap64 (a1 / 256)) (ji10)) t230 t231 true)))) else (none)) = some r := by first | (rw [hji10] at H; exact H) | (simp only [hji10] at H ⊢; exact H)
        have hji10w : (IntKind.i64.wrap (8 * (wrap64 (7 - (wrap64 (1 + (Int.tmod (wrap64 (a0_0)) 7))))))) = ji10 := (i64_w _).trans hji10
        by_cases c11 : 0 ≤ (ji10)
        · rw [if_pos c11] at H
          have c11b0 := eq_true c11
          have c11b1 : decide (0 ≤ (ji10)) = true := decide_eq_true c11
          clear c11
          obtain ⟨ji12, hji12⟩ : ∃ j_ : Int, (shr .i64 (wrap64 (a1 / 256)) (ji10)) = j_ := ⟨_, rfl⟩
          replace H : ((field_Put.f kj2 (ji12) (wrap64 (1 + (Int.tmod (wrap64 (a0_0)) 7)))).bind fun t230 => ((field_PutLittle.f kj2 (ji12) (wrap64 (1 + (Int.tmod (wrap64 (a0_0)) 7)))).bind fun t231 => (if (t230.size : Int) = (wrap64 (1 + (Int.tmod (wrap64 (a0_0)) 7))) then (intrusionlaw01_FieldRoundTrip.j1 kj2 a0_1 a0_2 (wrap64 (1 + (Int.tmod (wrap64 (a0_0)) 7))) ji12 t230 t231 ((t231.size : Int) != (wrap64 (1 + (Int.tmod (wrap64 (a0_0)) 7))))) else (intrusionlaw01_FieldRoundTrip.j1 kj2 a0_1 a0_2 (wrap64 (1 + (Int.tmod (wrap64 (a0_0)) 7))) ji12 t230 t231 true)))) = some r := by first | (rw [hji12] at H; exact H) | (simp only [hji12] at H ⊢; exact H)
          have hji12_ : ((wrap64 (a1 / 256)) / 2 ^ min (ji10).toNat 64) = ji12 := hji12
          have hji12z : (ji10) ≤ 64 → ((wrap64 (a1 / 256)) / 2 ^ (ji10).toNat) = ji12 := shr_small hji12
          replace H := Option.bind_eq_some_iff.mp H
          obtain ⟨t230, A130, H⟩ := H
          replace H : ((field_PutLittle.f kj2 (ji12) (wrap64 (1 + (Int.tmod (wrap64 (a0_0)) 7)))).bind fun t231 => (if (t230.size : Int) = (wrap64 (1 + (Int.tmod (wrap64 (a0_0)) 7))) then (intrusionlaw01_FieldRoundTrip.j1 kj2 a0_1 a0_2 (wrap64 (1 + (Int.tmod (wrap64 (a0_0)) 7))) ji12 t230 t231 ((t231.size : Int) != (wrap64 (1 + (Int.tmod (wrap64 (a0_0)) 7))))) else (intrusionlaw01_FieldRoundTrip.j1 kj2 a0_1 a0_2 (wrap64 (1 + (Int.tmod (wrap64 (a0_0)) 7))) ji12 t230 t231 true))) = some r := H
          have A13 := Aside0.mk A130
          clear A130
          replace H := Option.bind_eq_some_iff.mp H
          obtain ⟨t231, A140, H⟩ := H
          replace H : (if (t230.size : Int) = (wrap64 (1 + (Int.tmod (wrap64 (a0_0)) 7))) then (intrusionlaw01_FieldRoundTrip.j1 kj2 a0_1 a0_2 (wrap64 (1 + (Int.tmod (wrap64 (a0_0)) 7))) ji12 t230 t231 ((t231.size : Int) != (wrap64 (1 + (Int.tmod (wrap64 (a0_0)) 7))))) else (intrusionlaw01_FieldRoundTrip.j1 kj2 a0_1 a0_2 (wrap64 (1 + (Int.tmod (wrap64 (a0_0)) 7))) ji12 t230 t231 true)) = some r := H
          have A14 := Aside0.mk A140
          clear A140
          have HC15 := Aside0.mk H
          clear H
          have hcz16_0 : wc.cell? ⟨gb228, 0, none⟩ = some (.int .u8 a0_0) := (blk_cell BK228.out 0).trans rfl
          have hcz16_1 : wc.cell? ⟨gb228, 1, none⟩ = some (.string a0_1) := (blk_cell BK228.out 1).trans rfl
          have hcz16_2 : wc.cell? ⟨gb228, 2, none⟩ = some (.string a0_2) := (blk_cell BK228.out 2).trans rfl
          have hfz16_0 := blk_frozen BK228.out 0
          have hfz16_1 := blk_frozen BK228.out 1
          have hfz16_2 := blk_frozen BK228.out 2
          go_upto_region 7 with (first | (go_at_call 8; (with_reducible refine (field_Put.calls kj2 ji12 (wrap64 (1 + (Int.tmod (wrap64 (a0_0)) 7))) t230 _ A13.out).mono ?_); rintro e w17 ⟨rfl, hb⟩; have n0_ := Aside0.mk (blk_below (g := gb228) (o := .cells #[.int .u8 a0_0, .string a0_1, .string a0_2] 45 (0, 0)) (by (with_reducible repeat (first | refine blk_drewN ?_ _ | refine blk_drew ?_ | refine blk_alloc ?_ _)); exact BK228.out) hb); have n1_ := Aside0.mk (below_step (by repeat (first | (with_reducible first | exact HB.out | apply below_alloc | apply pw_below_drewN | apply below_drew1 | refine below_set ?_ GE228.out) | exact HB.out)) hb); clear BK228; clear HB; have BK228 := n0_; have HB := n1_; clear n0_ n1_; (try clear hb); (try clear hb2); (try clear hk); (try clear hi)) | (go_at_call 10; (with_reducible refine (field_PutLittle.calls kj2 ji12 (wrap64 (1 + (Int.tmod (wrap64 (a0_0)) 7))) t231 _ A14.out).mono ?_); rintro e w18 ⟨rfl, hb⟩; have n0_ := Aside0.mk (blk_below (g := gb228) (o := .cells #[.int .u8 a0_0, .string a0_1, .string a0_2] 45 (0, 0)) (by (with_reducible repeat (first | refine blk_drewN ?_ _ | refine blk_drew ?_ | refine blk_alloc ?_ _)); exact BK228.out) hb); have n1_ := Aside0.mk (below_step (by repeat (first | (with_reducible first | exact HB.out | apply below_alloc | apply pw_below_drewN | apply below_drew1 | refine below_set ?_ GE228.out) | exact HB.out)) hb); clear BK228; clear HB; have BK228 := n0_; have HB := n1_; clear n0_ n1_; (try clear hb); (try clear hb2); (try clear hk); (try clear hi)))
          repeat (go_quiet (first | (go_at_call 8; (with_reducible refine (field_Put.calls kj2 ji12 (wrap64 (1 + (Int.tmod (wrap64 (a0_0)) 7))) t230 _ A13.out).mono ?_); rintro e w17 ⟨rfl, hb⟩; have n0_ := Aside0.mk (blk_below (g := gb228) (o := .cells #[.int .u8 a0_0, .string a0_1, .string a0_2] 45 (0, 0)) (by (with_reducible repeat (first | refine blk_drewN ?_ _ | refine blk_drew ?_ | refine blk_alloc ?_ _)); exact BK228.out) hb); have n1_ := Aside0.mk (below_step (by repeat (first | (with_reducible first | exact HB.out | apply below_alloc | apply pw_below_drewN | apply below_drew1 | refine below_set ?_ GE228.out) | exact HB.out)) hb); clear BK228; clear HB; have BK228 := n0_; have HB := n1_; clear n0_ n1_; (try clear hb); (try clear hb2); (try clear hk); (try clear hi)) | (go_at_call 10; (with_reducible refine (field_PutLittle.calls kj2 ji12 (wrap64 (1 + (Int.tmod (wrap64 (a0_0)) 7))) t231 _ A14.out).mono ?_); rintro e w18 ⟨rfl, hb⟩; have n0_ := Aside0.mk (blk_below (g := gb228) (o := .cells #[.int .u8 a0_0, .string a0_1, .string a0_2] 45 (0, 0)) (by (with_reducible repeat (first | refine blk_drewN ?_ _ | refine blk_drew ?_ | refine blk_alloc ?_ _)); exact BK228.out) hb); have n1_ := Aside0.mk (below_step (by repeat (first | (with_reducible first | exact HB.out | apply below_alloc | apply pw_below_drewN | apply below_drew1 | refine below_set ?_ GE228.out) | exact HB.out)) hb); clear BK228; clear HB; have BK228 := n0_; have HB := n1_; clear n0_ n1_; (try clear hb); (try clear hb2); (try clear hk); (try clear hi))); go_upto_region 7 with (first | (go_at_call 8; (with_reducible refine (field_Put.calls kj2 ji12 (wrap64 (1 + (Int.tmod (wrap64 (a0_0)) 7))) t230 _ A13.out).mono ?_); rintro e w17 ⟨rfl, hb⟩; have n0_ := Aside0.mk (blk_below (g := gb228) (o := .cells #[.int .u8 a0_0, .string a0_1, .string a0_2] 45 (0, 0)) (by (with_reducible repeat (first | refine blk_drewN ?_ _ | refine blk_drew ?_ | refine blk_alloc ?_ _)); exact BK228.out) hb); have n1_ := Aside0.mk (below_step (by repeat (first | (with_reducible first | exact HB.out | apply below_alloc | apply pw_below_drewN | apply below_drew1 | refine below_set ?_ GE228.out) | exact HB.out)) hb); clear BK228; clear HB; have BK228 := n0_; have HB := n1_; clear n0_ n1_; (try clear hb); (try clear hb2); (try clear hk); (try clear hi)) | (go_at_call 10; (with_reducible refine (field_PutLittle.calls kj2 ji12 (wrap64 (1 + (Int.tmod (wrap64 (a0_0)) 7))) t231 _ A14.out).mono ?_); rintro e w18 ⟨rfl, hb⟩; have n0_ := Aside0.mk (blk_below (g := gb228) (o := .cells #[.int .u8 a0_0, .string a0_1, .string a0_2] 45 (0, 0)) (by (with_reducible repeat (first | refine blk_drewN ?_ _ | refine blk_drew ?_ | refine blk_alloc ?_ _)); exact BK228.out) hb); have n1_ := Aside0.mk (below_step (by repeat (first | (with_reducible first | exact HB.out | apply below_alloc | apply pw_below_drewN | apply below_drew1 | refine below_set ?_ GE228.out) | exact HB.out)) hb); clear BK228; clear HB; have BK228 := n0_; have HB := n1_; clear n0_ n1_; (try clear hb); (try clear hb2); (try clear hk); (try clear hi))))
          (try simp only [Act.put, List.setIfInBounds_toArray, List.set_cons_zero, List.set_cons_succ])
          go_cut [56] (fun v56 wc => ∃ (kq : Nat) (x56_14 : Bool), v56 = .bool x56_14 ∧ Aside0 (intrusionlaw01_FieldRoundTrip.j1 kq a0_1 a0_2 (wrap64 (1 + (Int.tmod (wrap64 (a0_0)) 7))) ji12 t230 t231 x56_14 = some r) ∧ Aside0 (kq ≤ kj2) ∧ Aside0 (wc.heap[gb228]? = some (.cells #[.int .u8 a0_0, .string a0_1, .string a0_2] 45 (0, 0))) ∧ Aside0 (Below w.heap.size w wc))
          case first =>
            have H := HC15.out
            clear HC15
            by_cases c19 : (t230.size : Int) = (wrap64 (1 + (Int.tmod (wrap64 (a0_0)) 7)))
            · rw [if_pos c19] at H
              have c19b0 : ((t230.size : Int) == (wrap64 (1 + (Int.tmod (wrap64 (a0_0)) 7)))) = true := beq_iff_eq.mpr c19
              have c19b1 : ((t230.size : Int) != (wrap64 (1 + (Int.tmod (wrap64 (a0_0)) 7)))) = false := bne_eq_false_iff_eq.mpr c19
              clear c19
              (first | rw [c19b0] | (simp only [i64_w, i32_w]; rw [c19b0]) | skip)
              have H' := Aside0.mk H
              clear H
              go_wp2
              repeat (go_quiet (fail); try go_wp2)
              go_meet
              case rel => exact ⟨_, (((t231.size : Int) != (wrap64 (1 + (Int.tmod (wrap64 (a0_0)) 7))))), (by first | rfl | (simp; done) | (simp [*]; done)), H', ⟨by have := HJ2.out; first | omega | exact Nat.le_refl _⟩, ⟨by (with_reducible repeat (first | refine blk_drewN ?_ _ | refine blk_drew ?_ | refine blk_alloc ?_ _)); exact BK228.out⟩, ⟨by repeat (first | (with_reducible first | exact HB.out | apply below_alloc | apply pw_below_drewN | apply below_drew1 | refine below_set ?_ GE228.out) | exact HB.out)⟩⟩
            · rw [if_neg c19] at H
              have c19b0 : ((t230.size : Int) == (wrap64 (1 + (Int.tmod (wrap64 (a0_0)) 7)))) = false := beq_eq_false_iff_ne.mpr c19
              have c19b1 : ((t230.size : Int) != (wrap64 (1 + (Int.tmod (wrap64 (a0_0)) 7)))) = true := bne_iff_ne.mpr c19
              (first | rw [c19b0] | (simp only [i64_w, i32_w]; rw [c19b0]) | skip)
              have H' := Aside0.mk H
              clear H
              go_wp2
              repeat (go_quiet (fail); try go_wp2)
              go_meet
              case rel => exact ⟨_, (true), (by first | rfl | (simp; done) | (simp [*]; done)), H', ⟨by have := HJ2.out; first | omega | exact Nat.le_refl _⟩, ⟨by (with_reducible repeat (first | refine blk_drewN ?_ _ | refine blk_drew ?_ | refine blk_alloc ?_ _)); exact BK228.out⟩, ⟨by repeat (first | (with_reducible first | exact HB.out | apply below_alloc | apply pw_below_drewN | apply below_drew1 | refine below_set ?_ GE228.out) | exact HB.out)⟩⟩
          case rest =>
            clear HC15
            try clear c1
            try clear p2
            try clear c6
            try clear c6b0
            try clear c6b1
            try clear p6
            try clear c7
            try clear c11
            try clear c11b0
            try clear c11b1
            try clear c19
            try clear c19b0
            try clear c19b1
            try clear hcz16_0
            try clear hcz16_1
            try clear hcz16_2
            try clear hcz5_0
            try clear hcz5_1
            try clear hcz5_2
            try clear hfz16_0
            try clear hfz16_1
            try clear hfz16_2
            try clear hfz5_0
            try clear hfz5_1
            try clear hfz5_2
            try clear p2
            obtain ⟨kq, x56_14, rfl, HA, HJ14, BK228, HB⟩ := hcut
            cases kq with
            | zero => exact absurd HA.out (by simp [intrusionlaw01_FieldRoundTrip.j1])
            | succ kj14 =>
              have H := HA.out
              clear HA
              simp only [intrusionlaw01_FieldRoundTrip.j1] at H
              by_cases c20 : x56_14 = true
              · subst c20
                have H1 : (some false) = some r := by rw [if_pos rfl] at H; exact H
                clear H
                have H := H1
                clear H1
                obtain rfl := Option.some.inj H
                go_wp2
                repeat (go_quiet (fail); try go_wp2)
                go_ret
                exact ⟨by first | rfl | (simp [errW_none, errW_some] <;> rfl) | (simp only [← hji10, ← hji12]; first | rfl | (simp [errW_none, errW_some] <;> rfl)) | (simp [*, errW_none, errW_some] <;> rfl), by repeat (first | (with_reducible first | exact HB.out | apply below_alloc | apply pw_below_drewN | apply below_drew1 | refine below_set ?_ GE228.out) | exact HB.out)⟩
              · replace c20 := Bool.eq_false_iff.mpr c20
                subst c20
                have H1 : (intrusionlaw01_FieldRoundTrip.l0 kj14 a0_1 a0_2 (wrap64 (1 + (Int.tmod (wrap64 (a0_0)) 7))) ji12 t230 t231 0) = some r := by rw [if_neg (show ¬ (false = true) by decide)] at H; exact H
                clear H
                have H := H1
                clear H1
                have H' := Aside0.mk H
                clear H
                go_wp2
                repeat (go_quiet (fail); try go_wp2)
                go_loopg [11] kj14 (fun kq v11 w' => ∃ (x11_3 : Int), v11 = .int .i64 x11_3 ∧ Aside0 (intrusionlaw01_FieldRoundTrip.l0 kq a0_1 a0_2 (wrap64 (1 + (Int.tmod (wrap64 (a0_0)) 7))) ji12 t230 t231 x11_3 = some r) ∧ Aside0 (kq ≤ kj14) ∧ Aside0 (w'.heap[gb228]? = some (.cells #[.int .u8 a0_0, .string a0_1, .string a0_2] 45 (0, 0))) ∧ Aside0 (Below w.heap.size w w'))
                case atStart => exact ⟨(0), (by first | rfl | (simp; done) | (simp [*]; done)), H', ⟨Nat.le_refl _⟩, ⟨by (with_reducible repeat (first | refine blk_drewN ?_ _ | refine blk_drew ?_ | refine blk_alloc ?_ _)); exact BK228.out⟩, ⟨by repeat (first | (with_reducible first | exact HB.out | apply below_alloc | apply pw_below_drewN | apply below_drew1 | refine below_set ?_ GE228.out) | exact HB.out)⟩⟩
                case round =>
                  clear H'
                  try clear c1
                  try clear c2
                  try clear p2
                  try clear c6
                  try clear c6b0
                  try clear c6b1
                  try clear p6
                  try clear c7
                  try clear c11
                  try clear c11b0
                  try clear c11b1
                  try clear c19
                  try clear c19b0
                  try clear c19b1
                  try clear c20
                  try clear hcz16_0
                  try clear hcz16_1
                  try clear hcz16_2
                  try clear hcz5_0
                  try clear hcz5_1
                  try clear hcz5_2
                  try clear hfz16_0
                  try clear hfz16_1
                  try clear hfz16_2
                  try clear hfz5_0
                  try clear hfz5_1
                  try clear hfz5_2
                  try clear p2
                  try clear p6
                  obtain ⟨x11_3, rfl, HA, HK3, BK228, HB⟩ := hrel
                  cases gk with
                  | zero => exact absurd HA.out (by simp [intrusionlaw01_FieldRoundTrip.l0])
                  | succ k3 =>
                    have H := HA.out
                    clear HA
                    simp only [intrusionlaw01_FieldRoundTrip.l0] at H
                    by_cases c21 : x11_3 < (wrap64 (1 + (Int.tmod (wrap64 (a0_0)) 7)))
                    · rw [if_pos c21] at H
                      have c21b0 : decide (x11_3 < (wrap64 (1 + (Int.tmod (wrap64 (a0_0)) 7)))) = true := decide_eq_true c21
                      clear c21
                      by_cases c22 : 0 ≤ x11_3
                      · rw [if_pos c22] at H
                        have c22b0 : decide (0 ≤ x11_3) = true := decide_eq_true c22
                        clear c22
                        by_cases c23 : x11_3 < (t230.size : Int)
                        · rw [if_pos c23] at H
                          have c23b0 : decide (x11_3 < (t230.size : Int)) = true := decide_eq_true c23
                          clear c23
                          obtain ⟨ji25, hji25⟩ : ∃ j_ : Int, (wrap64 ((wrap64 ((wrap64 (1 + (Int.tmod (wrap64 (a0_0)) 7))) - 1)) - x11_3)) = j_ := ⟨_, rfl⟩
                          replace H : (if 0 ≤ (ji25) then (if (ji25) < (t231.size : Int) then (if (bt t230 x11_3) = (bt t231 (ji25)) then (intrusionlaw01_FieldRoundTrip.l0 k3 a0_1 a0_2 (wrap64 (1 + (Int.tmod (wrap64 (a0_0)) 7))) ji12 t230 t231 (wrap64 (x11_3 + 1))) else (some false)) else (none)) else (none)) = some r := by first | (rw [hji25] at H; exact H) | (simp only [hji25] at H ⊢; exact H)
                          have hji25w : (IntKind.i64.wrap ((wrap64 ((wrap64 (1 + (Int.tmod (wrap64 (a0_0)) 7))) - 1)) - x11_3)) = ji25 := (i64_w _).trans hji25
                          by_cases c26 : 0 ≤ (ji25)
                          · rw [if_pos c26] at H
                            have c26b0 : decide (0 ≤ (ji25)) = true := decide_eq_true c26
                            clear c26
                            by_cases c27 : (ji25) < (t231.size : Int)
                            · rw [if_pos c27] at H
                              have c27b0 : decide ((ji25) < (t231.size : Int)) = true := decide_eq_true c27
                              clear c27
                              by_cases c29 : (bt t230 x11_3) = (bt t231 (ji25))
                              · rw [if_pos c29] at H
                                have c29b0 : ((bt t230 x11_3) == (bt t231 (ji25))) = true := beq_iff_eq.mpr c29
                                have c29b1 : ((bt t230 x11_3) != (bt t231 (ji25))) = false := bne_eq_false_iff_eq.mpr c29
                                clear c29
                                have H' := Aside0.mk H
                                clear H
                                have p24 : 0 ≤ (x11_3 : Int) := of_decide_eq_true (by first | (with_reducible assumption) | assumption)
                                have q24 : x11_3 < (t230.size : Int) := of_decide_eq_true (by first | (with_reducible assumption) | assumption)
                                have hx24 := bt_at t230 x11_3
                                replace p24 := eq_true p24
                                replace q24 := eq_true q24
                                have p28 : 0 ≤ ((ji25) : Int) := of_decide_eq_true (by first | (with_reducible assumption) | assumption)
                                have q28 : (ji25) < (t231.size : Int) := of_decide_eq_true (by first | (with_reducible assumption) | assumption)
                                have hx28 := bt_at t231 (ji25)
                                replace p28 := eq_true p28
                                replace q28 := eq_true q28
                                go_wp2
                                repeat (go_quiet (fail); try go_wp2)
                                go_roundg k3
                                case measure => have := HJ2.out; have := HJ14.out; have := HK3.out; omega
                                case rel => exact ⟨(wrap64 (x11_3 + 1)), (by first | rfl | (simp; done) | (simp [*]; done)), H', ⟨by have := HJ2.out; have := HJ14.out; have := HK3.out; omega⟩, ⟨by (with_reducible repeat (first | refine blk_drewN ?_ _ | refine blk_drew ?_ | refine blk_alloc ?_ _)); exact BK228.out⟩, ⟨by repeat (first | (with_reducible first | exact HB.out | apply below_alloc | apply pw_below_drewN | apply below_drew1 | refine below_set ?_ GE228.out) | exact HB.out)⟩⟩
                              · rw [if_neg c29] at H
                                have c29b0 : ((bt t230 x11_3) == (bt t231 (ji25))) = false := beq_eq_false_iff_ne.mpr c29
                                have c29b1 : ((bt t230 x11_3) != (bt t231 (ji25))) = true := bne_iff_ne.mpr c29
                                obtain rfl := Option.some.inj H
                                have p24 : 0 ≤ (x11_3 : Int) := of_decide_eq_true (by first | (with_reducible assumption) | assumption)
                                have q24 : x11_3 < (t230.size : Int) := of_decide_eq_true (by first | (with_reducible assumption) | assumption)
                                have hx24 := bt_at t230 x11_3
                                replace p24 := eq_true p24
                                replace q24 := eq_true q24
                                have p28 : 0 ≤ ((ji25) : Int) := of_decide_eq_true (by first | (with_reducible assumption) | assumption)
                                have q28 : (ji25) < (t231.size : Int) := of_decide_eq_true (by first | (with_reducible assumption) | assumption)
                                have hx28 := bt_at t231 (ji25)
                                replace p28 := eq_true p28
                                replace q28 := eq_true q28
                                go_wp2
                                repeat (go_quiet (fail); try go_wp2)
                                go_ret
                                exact ⟨by first | rfl | (simp [errW_none, errW_some] <;> rfl) | (simp only [← hji10, ← hji12, ← hji25]; first | rfl | (simp [errW_none, errW_some] <;> rfl)) | (simp [*, errW_none, errW_some] <;> rfl), by repeat (first | (with_reducible first | exact HB.out | apply below_alloc | apply pw_below_drewN | apply below_drew1 | refine below_set ?_ GE228.out) | exact HB.out)⟩
                            · rw [if_neg c27] at H
                              exact absurd H (by simp)
                          · rw [if_neg c26] at H
                            exact absurd H (by simp)
                        · rw [if_neg c23] at H
                          exact absurd H (by simp)
                      · rw [if_neg c22] at H
                        exact absurd H (by simp)
                    · rw [if_neg c21] at H
                      have c21b0 : decide (x11_3 < (wrap64 (1 + (Int.tmod (wrap64 (a0_0)) 7)))) = false := decide_eq_false c21
                      clear c21
                      by_cases c30 : a0_1.size + t230.size ≤ 9223372036854775807
                      · rw [if_pos c30] at H
                        have c30b0 := eq_true c30
                        have c30b1 : decide (a0_1.size + t230.size ≤ 9223372036854775807) = true := decide_eq_true c30
                        try have c30b2 : (9223372036854775807 < a0_1.size + t230.size) = False := eq_false (Nat.not_lt.2 c30)
                        by_cases c31 : (a0_1 ++ t230).size + a0_2.size ≤ 9223372036854775807
                        · rw [if_pos c31] at H
                          have c31b0 := eq_true c31
                          have c31b1 : decide ((a0_1 ++ t230).size + a0_2.size ≤ 9223372036854775807) = true := decide_eq_true c31
                          (try (have c31s0 : (9223372036854775807 < a0_1.size + t230.size + a0_2.size) = False := by have h_ := c31; simp only [ByteArray.size_append, ByteArray.size_extract] at h_; exact eq_false (by first | omega | (omega))))
                          (try (have c31s1 : (9223372036854775807 < (a0_1.size + t230.size) + a0_2.size) = False := by have h_ := c31; simp only [ByteArray.size_append, ByteArray.size_extract] at h_; exact eq_false (by first | omega | (omega))))
                          (try (have c31s2 : ((a0_1.size + t230.size) + a0_2.size ≤ 9223372036854775807) = True := by have h_ := c31; simp only [ByteArray.size_append, Int.natCast_add, Int.toNat_natCast] at h_; first | exact eq_true h_ | exact eq_true (by omega)))
                          (try (have c31s3 : decide ((a0_1.size + t230.size) + a0_2.size ≤ 9223372036854775807) = true := by have h_ := c31; first | (simp only [ByteArray.size_append, Int.toNat_natCast] at h_; first | exact beq_iff_eq.mpr h_ | exact beq_eq_false_iff_ne.mpr h_ | exact bne_iff_ne.mpr h_ | exact bne_eq_false_iff_eq.mpr h_ | (rw [beq_iff_eq.mpr h_]; rfl) | (rw [beq_eq_false_iff_ne.mpr h_]; rfl)) | (simp only [ByteArray.size_append, Int.natCast_add, Int.toNat_natCast] at h_ ⊢; first | exact h_ | simpa using h_ | simp [h_] | omega) | (simp only [ByteArray.size_append] at h_; simp at h_ ⊢; omega) | (simp only [ByteArray.size_append, Int.natCast_add, Int.toNat_natCast] at h_; simpa using h_)))
                          try have c31b2 : (9223372036854775807 < (a0_1 ++ t230).size + a0_2.size) = False := eq_false (Nat.not_lt.2 c31)
                          replace H := Option.bind_eq_some_iff.mp H
                          obtain ⟨⟨t232, t233⟩, A320, H⟩ := H
                          replace H : (if a0_1.size + t231.size ≤ 9223372036854775807 then (if (a0_1 ++ t231).size + a0_2.size ≤ 9223372036854775807 then ((field_GetLittle.f k3 ((a0_1 ++ t231) ++ a0_2) (a0_1.size : Int) (wrap64 (1 + (Int.tmod (wrap64 (a0_0)) 7)))).bind fun bt234 => (if t233 = 0 then (if bt234.2 = 0 then (if t232 = ji12 then (if bt234.1 = ji12 then ((intrusionlaw01_awake.f k3).bind fun t236 => (some t236)) else (some false)) else (some false)) else (some false)) else (some false))) else (none)) else (none)) = some r := H
                          have A32 := Aside0.mk A320
                          clear A320
                          by_cases c33 : a0_1.size + t231.size ≤ 9223372036854775807
                          · rw [if_pos c33] at H
                            have c33b0 := eq_true c33
                            have c33b1 : decide (a0_1.size + t231.size ≤ 9223372036854775807) = true := decide_eq_true c33
                            try have c33b2 : (9223372036854775807 < a0_1.size + t231.size) = False := eq_false (Nat.not_lt.2 c33)
                            by_cases c34 : (a0_1 ++ t231).size + a0_2.size ≤ 9223372036854775807
                            · rw [if_pos c34] at H
                              have c34b0 := eq_true c34
                              have c34b1 : decide ((a0_1 ++ t231).size + a0_2.size ≤ 9223372036854775807) = true := decide_eq_true c34
                              (try (have c34s0 : (9223372036854775807 < a0_1.size + t231.size + a0_2.size) = False := by have h_ := c34; simp only [ByteArray.size_append, ByteArray.size_extract] at h_; exact eq_false (by first | omega | (omega))))
                              (try (have c34s1 : (9223372036854775807 < (a0_1.size + t231.size) + a0_2.size) = False := by have h_ := c34; simp only [ByteArray.size_append, ByteArray.size_extract] at h_; exact eq_false (by first | omega | (omega))))
                              (try (have c34s2 : ((a0_1.size + t231.size) + a0_2.size ≤ 9223372036854775807) = True := by have h_ := c34; simp only [ByteArray.size_append, Int.natCast_add, Int.toNat_natCast] at h_; first | exact eq_true h_ | exact eq_true (by omega)))
                              (try (have c34s3 : decide ((a0_1.size + t231.size) + a0_2.size ≤ 9223372036854775807) = true := by have h_ := c34; first | (simp only [ByteArray.size_append, Int.toNat_natCast] at h_; first | exact beq_iff_eq.mpr h_ | exact beq_eq_false_iff_ne.mpr h_ | exact bne_iff_ne.mpr h_ | exact bne_eq_false_iff_eq.mpr h_ | (rw [beq_iff_eq.mpr h_]; rfl) | (rw [beq_eq_false_iff_ne.mpr h_]; rfl)) | (simp only [ByteArray.size_append, Int.natCast_add, Int.toNat_natCast] at h_ ⊢; first | exact h_ | simpa using h_ | simp [h_] | omega) | (simp only [ByteArray.size_append] at h_; simp at h_ ⊢; omega) | (simp only [ByteArray.size_append, Int.natCast_add, Int.toNat_natCast] at h_; simpa using h_)))
                              try have c34b2 : (9223372036854775807 < (a0_1 ++ t231).size + a0_2.size) = False := eq_false (Nat.not_lt.2 c34)
                              replace H := Option.bind_eq_some_iff.mp H
                              obtain ⟨⟨t234, t235⟩, A350, H⟩ := H
                              replace H : (if t233 = 0 then (if t235 = 0 then (if t232 = ji12 then (if t234 = ji12 then ((intrusionlaw01_awake.f k3).bind fun t236 => (some t236)) else (some false)) else (some false)) else (some false)) else (some false)) = some r := H
                              have A35 := Aside0.mk A350
                              clear A350
                              by_cases c36 : t233 = 0
                              · rw [if_pos c36] at H
                                have c36b0 : (t233 == 0) = true := beq_iff_eq.mpr c36
                                have c36b1 : (t233 != 0) = false := bne_eq_false_iff_eq.mpr c36
                                clear c36
                                by_cases c37 : t235 = 0
                                · rw [if_pos c37] at H
                                  have c37b0 : (t235 == 0) = true := beq_iff_eq.mpr c37
                                  have c37b1 : (t235 != 0) = false := bne_eq_false_iff_eq.mpr c37
                                  clear c37
                                  by_cases c38 : t232 = ji12
                                  · rw [if_pos c38] at H
                                    have c38b0 : (t232 == ji12) = true := beq_iff_eq.mpr c38
                                    have c38b1 : (t232 != ji12) = false := bne_eq_false_iff_eq.mpr c38
                                    clear c38
                                    by_cases c39 : t234 = ji12
                                    · rw [if_pos c39] at H
                                      have c39b0 : (t234 == ji12) = true := beq_iff_eq.mpr c39
                                      have c39b1 : (t234 != ji12) = false := bne_eq_false_iff_eq.mpr c39
                                      clear c39
                                      replace H := Option.bind_eq_some_iff.mp H
                                      obtain ⟨t236, A400, H⟩ := H
                                      replace H : (some t236) = some r := H
                                      have A40 := Aside0.mk A400
                                      clear A400
                                      obtain rfl := Option.some.inj H
                                      go_wp2_with (first | (go_at_call 25; (with_reducible refine (field_Get.calls k3 ((a0_1 ++ t230) ++ a0_2) (a0_1.size : Int) (wrap64 (1 + (Int.tmod (wrap64 (a0_0)) 7))) t232 t233 _ A32.out).mono ?_); rintro e w41 ⟨rfl, hb⟩; have n0_ := Aside0.mk (blk_below (g := gb228) (o := .cells #[.int .u8 a0_0, .string a0_1, .string a0_2] 45 (0, 0)) (by (with_reducible repeat (first | refine blk_drewN ?_ _ | refine blk_drew ?_ | refine blk_alloc ?_ _)); exact BK228.out) hb); have n1_ := Aside0.mk (below_step (by repeat (first | (with_reducible first | exact HB.out | apply below_alloc | apply pw_below_drewN | apply below_drew1 | refine below_set ?_ GE228.out) | exact HB.out)) hb); clear BK228; clear HB; have BK228 := n0_; have HB := n1_; clear n0_ n1_; (try clear hb); (try clear hb2); (try clear hk); (try clear hi)) | (go_at_call 27; (with_reducible refine (field_GetLittle.calls k3 ((a0_1 ++ t231) ++ a0_2) (a0_1.size : Int) (wrap64 (1 + (Int.tmod (wrap64 (a0_0)) 7))) t234 t235 _ A35.out).mono ?_); rintro e w42 ⟨rfl, hb⟩; have n0_ := Aside0.mk (blk_below (g := gb228) (o := .cells #[.int .u8 a0_0, .string a0_1, .string a0_2] 45 (0, 0)) (by (with_reducible repeat (first | refine blk_drewN ?_ _ | refine blk_drew ?_ | refine blk_alloc ?_ _)); exact BK228.out) hb); have n1_ := Aside0.mk (below_step (by repeat (first | (with_reducible first | exact HB.out | apply below_alloc | apply pw_below_drewN | apply below_drew1 | refine below_set ?_ GE228.out) | exact HB.out)) hb); clear BK228; clear HB; have BK228 := n0_; have HB := n1_; clear n0_ n1_; (try clear hb); (try clear hb2); (try clear hk); (try clear hi)) | (go_at_call 12; (with_reducible refine (intrusionlaw01_awake.calls k3  t236 _ A40.out).mono ?_); rintro e w43 ⟨rfl, hb⟩; have n0_ := Aside0.mk (blk_below (g := gb228) (o := .cells #[.int .u8 a0_0, .string a0_1, .string a0_2] 45 (0, 0)) (by (with_reducible repeat (first | refine blk_drewN ?_ _ | refine blk_drew ?_ | refine blk_alloc ?_ _)); exact BK228.out) hb); have n1_ := Aside0.mk (below_step (by repeat (first | (with_reducible first | exact HB.out | apply below_alloc | apply pw_below_drewN | apply below_drew1 | refine below_set ?_ GE228.out) | exact HB.out)) hb); clear BK228; clear HB; have BK228 := n0_; have HB := n1_; clear n0_ n1_; (try clear hb); (try clear hb2); (try clear hk); (try clear hi)))
                                      repeat (go_quiet (first | (go_at_call 25; (with_reducible refine (field_Get.calls k3 ((a0_1 ++ t230) ++ a0_2) (a0_1.size : Int) (wrap64 (1 + (Int.tmod (wrap64 (a0_0)) 7))) t232 t233 _ A32.out).mono ?_); rintro e w41 ⟨rfl, hb⟩; have n0_ := Aside0.mk (blk_below (g := gb228) (o := .cells #[.int .u8 a0_0, .string a0_1, .string a0_2] 45 (0, 0)) (by (with_reducible repeat (first | refine blk_drewN ?_ _ | refine blk_drew ?_ | refine blk_alloc ?_ _)); exact BK228.out) hb); have n1_ := Aside0.mk (below_step (by repeat (first | (with_reducible first | exact HB.out | apply below_alloc | apply pw_below_drewN | apply below_drew1 | refine below_set ?_ GE228.out) | exact HB.out)) hb); clear BK228; clear HB; have BK228 := n0_; have HB := n1_; clear n0_ n1_; (try clear hb); (try clear hb2); (try clear hk); (try clear hi)) | (go_at_call 27; (with_reducible refine (field_GetLittle.calls k3 ((a0_1 ++ t231) ++ a0_2) (a0_1.size : Int) (wrap64 (1 + (Int.tmod (wrap64 (a0_0)) 7))) t234 t235 _ A35.out).mono ?_); rintro e w42 ⟨rfl, hb⟩; have n0_ := Aside0.mk (blk_below (g := gb228) (o := .cells #[.int .u8 a0_0, .string a0_1, .string a0_2] 45 (0, 0)) (by (with_reducible repeat (first | refine blk_drewN ?_ _ | refine blk_drew ?_ | refine blk_alloc ?_ _)); exact BK228.out) hb); have n1_ := Aside0.mk (below_step (by repeat (first | (with_reducible first | exact HB.out | apply below_alloc | apply pw_below_drewN | apply below_drew1 | refine below_set ?_ GE228.out) | exact HB.out)) hb); clear BK228; clear HB; have BK228 := n0_; have HB := n1_; clear n0_ n1_; (try clear hb); (try clear hb2); (try clear hk); (try clear hi)) | (go_at_call 12; (with_reducible refine (intrusionlaw01_awake.calls k3  t236 _ A40.out).mono ?_); rintro e w43 ⟨rfl, hb⟩; have n0_ := Aside0.mk (blk_below (g := gb228) (o := .cells #[.int .u8 a0_0, .string a0_1, .string a0_2] 45 (0, 0)) (by (with_reducible repeat (first | refine blk_drewN ?_ _ | refine blk_drew ?_ | refine blk_alloc ?_ _)); exact BK228.out) hb); have n1_ := Aside0.mk (below_step (by repeat (first | (with_reducible first | exact HB.out | apply below_alloc | apply pw_below_drewN | apply below_drew1 | refine below_set ?_ GE228.out) | exact HB.out)) hb); clear BK228; clear HB; have BK228 := n0_; have HB := n1_; clear n0_ n1_; (try clear hb); (try clear hb2); (try clear hk); (try clear hi))); try go_wp2_with (first | (go_at_call 25; (with_reducible refine (field_Get.calls k3 ((a0_1 ++ t230) ++ a0_2) (a0_1.size : Int) (wrap64 (1 + (Int.tmod (wrap64 (a0_0)) 7))) t232 t233 _ A32.out).mono ?_); rintro e w41 ⟨rfl, hb⟩; have n0_ := Aside0.mk (blk_below (g := gb228) (o := .cells #[.int .u8 a0_0, .string a0_1, .string a0_2] 45 (0, 0)) (by (with_reducible repeat (first | refine blk_drewN ?_ _ | refine blk_drew ?_ | refine blk_alloc ?_ _)); exact BK228.out) hb); have n1_ := Aside0.mk (below_step (by repeat (first | (with_reducible first | exact HB.out | apply below_alloc | apply pw_below_drewN | apply below_drew1 | refine below_set ?_ GE228.out) | exact HB.out)) hb); clear BK228; clear HB; have BK228 := n0_; have HB := n1_; clear n0_ n1_; (try clear hb); (try clear hb2); (try clear hk); (try clear hi)) | (go_at_call 27; (with_reducible refine (field_GetLittle.calls k3 ((a0_1 ++ t231) ++ a0_2) (a0_1.size : Int) (wrap64 (1 + (Int.tmod (wrap64 (a0_0)) 7))) t234 t235 _ A35.out).mono ?_); rintro e w42 ⟨rfl, hb⟩; have n0_ := Aside0.mk (blk_below (g := gb228) (o := .cells #[.int .u8 a0_0, .string a0_1, .string a0_2] 45 (0, 0)) (by (with_reducible repeat (first | refine blk_drewN ?_ _ | refine blk_drew ?_ | refine blk_alloc ?_ _)); exact BK228.out) hb); have n1_ := Aside0.mk (below_step (by repeat (first | (with_reducible first | exact HB.out | apply below_alloc | apply pw_below_drewN | apply below_drew1 | refine below_set ?_ GE228.out) | exact HB.out)) hb); clear BK228; clear HB; have BK228 := n0_; have HB := n1_; clear n0_ n1_; (try clear hb); (try clear hb2); (try clear hk); (try clear hi)) | (go_at_call 12; (with_reducible refine (intrusionlaw01_awake.calls k3  t236 _ A40.out).mono ?_); rintro e w43 ⟨rfl, hb⟩; have n0_ := Aside0.mk (blk_below (g := gb228) (o := .cells #[.int .u8 a0_0, .string a0_1, .string a0_2] 45 (0, 0)) (by (with_reducible repeat (first | refine blk_drewN ?_ _ | refine blk_drew ?_ | refine blk_alloc ?_ _)); exact BK228.out) hb); have n1_ := Aside0.mk (below_step (by repeat (first | (with_reducible first | exact HB.out | apply below_alloc | apply pw_below_drewN | apply below_drew1 | refine below_set ?_ GE228.out) | exact HB.out)) hb); clear BK228; clear HB; have BK228 := n0_; have HB := n1_; clear n0_ n1_; (try clear hb); (try clear hb2); (try clear hk); (try clear hi))))
                                      go_ret
                                      exact ⟨by first | rfl | (simp [errW_none, errW_some] <;> rfl) | (simp only [← hji10, ← hji12]; first | rfl | (simp [errW_none, errW_some] <;> rfl)) | (simp [*, errW_none, errW_some] <;> rfl), by repeat (first | (with_reducible first | exact HB.out | apply below_alloc | apply pw_below_drewN | apply below_drew1 | refine below_set ?_ GE228.out) | exact HB.out)⟩
                                    · rw [if_neg c39] at H
                                      have c39b0 : (t234 == ji12) = false := beq_eq_false_iff_ne.mpr c39
                                      have c39b1 : (t234 != ji12) = true := bne_iff_ne.mpr c39
                                      obtain rfl := Option.some.inj H
                                      go_wp2_with (first | (go_at_call 25; (with_reducible refine (field_Get.calls k3 ((a0_1 ++ t230) ++ a0_2) (a0_1.size : Int) (wrap64 (1 + (Int.tmod (wrap64 (a0_0)) 7))) t232 t233 _ A32.out).mono ?_); rintro e w44 ⟨rfl, hb⟩; have n0_ := Aside0.mk (blk_below (g := gb228) (o := .cells #[.int .u8 a0_0, .string a0_1, .string a0_2] 45 (0, 0)) (by (with_reducible repeat (first | refine blk_drewN ?_ _ | refine blk_drew ?_ | refine blk_alloc ?_ _)); exact BK228.out) hb); have n1_ := Aside0.mk (below_step (by repeat (first | (with_reducible first | exact HB.out | apply below_alloc | apply pw_below_drewN | apply below_drew1 | refine below_set ?_ GE228.out) | exact HB.out)) hb); clear BK228; clear HB; have BK228 := n0_; have HB := n1_; clear n0_ n1_; (try clear hb); (try clear hb2); (try clear hk); (try clear hi)) | (go_at_call 27; (with_reducible refine (field_GetLittle.calls k3 ((a0_1 ++ t231) ++ a0_2) (a0_1.size : Int) (wrap64 (1 + (Int.tmod (wrap64 (a0_0)) 7))) t234 t235 _ A35.out).mono ?_); rintro e w45 ⟨rfl, hb⟩; have n0_ := Aside0.mk (blk_below (g := gb228) (o := .cells #[.int .u8 a0_0, .string a0_1, .string a0_2] 45 (0, 0)) (by (with_reducible repeat (first | refine blk_drewN ?_ _ | refine blk_drew ?_ | refine blk_alloc ?_ _)); exact BK228.out) hb); have n1_ := Aside0.mk (below_step (by repeat (first | (with_reducible first | exact HB.out | apply below_alloc | apply pw_below_drewN | apply below_drew1 | refine below_set ?_ GE228.out) | exact HB.out)) hb); clear BK228; clear HB; have BK228 := n0_; have HB := n1_; clear n0_ n1_; (try clear hb); (try clear hb2); (try clear hk); (try clear hi)))
                                      repeat (go_quiet (first | (go_at_call 25; (with_reducible refine (field_Get.calls k3 ((a0_1 ++ t230) ++ a0_2) (a0_1.size : Int) (wrap64 (1 + (Int.tmod (wrap64 (a0_0)) 7))) t232 t233 _ A32.out).mono ?_); rintro e w44 ⟨rfl, hb⟩; have n0_ := Aside0.mk (blk_below (g := gb228) (o := .cells #[.int .u8 a0_0, .string a0_1, .string a0_2] 45 (0, 0)) (by (with_reducible repeat (first | refine blk_drewN ?_ _ | refine blk_drew ?_ | refine blk_alloc ?_ _)); exact BK228.out) hb); have n1_ := Aside0.mk (below_step (by repeat (first | (with_reducible first | exact HB.out | apply below_alloc | apply pw_below_drewN | apply below_drew1 | refine below_set ?_ GE228.out) | exact HB.out)) hb); clear BK228; clear HB; have BK228 := n0_; have HB := n1_; clear n0_ n1_; (try clear hb); (try clear hb2); (try clear hk); (try clear hi)) | (go_at_call 27; (with_reducible refine (field_GetLittle.calls k3 ((a0_1 ++ t231) ++ a0_2) (a0_1.size : Int) (wrap64 (1 + (Int.tmod (wrap64 (a0_0)) 7))) t234 t235 _ A35.out).mono ?_); rintro e w45 ⟨rfl, hb⟩; have n0_ := Aside0.mk (blk_below (g := gb228) (o := .cells #[.int .u8 a0_0, .string a0_1, .string a0_2] 45 (0, 0)) (by (with_reducible repeat (first | refine blk_drewN ?_ _ | refine blk_drew ?_ | refine blk_alloc ?_ _)); exact BK228.out) hb); have n1_ := Aside0.mk (below_step (by repeat (first | (with_reducible first | exact HB.out | apply below_alloc | apply pw_below_drewN | apply below_drew1 | refine below_set ?_ GE228.out) | exact HB.out)) hb); clear BK228; clear HB; have BK228 := n0_; have HB := n1_; clear n0_ n1_; (try clear hb); (try clear hb2); (try clear hk); (try clear hi))); try go_wp2_with (first | (go_at_call 25; (with_reducible refine (field_Get.calls k3 ((a0_1 ++ t230) ++ a0_2) (a0_1.size : Int) (wrap64 (1 + (Int.tmod (wrap64 (a0_0)) 7))) t232 t233 _ A32.out).mono ?_); rintro e w44 ⟨rfl, hb⟩; have n0_ := Aside0.mk (blk_below (g := gb228) (o := .cells #[.int .u8 a0_0, .string a0_1, .string a0_2] 45 (0, 0)) (by (with_reducible repeat (first | refine blk_drewN ?_ _ | refine blk_drew ?_ | refine blk_alloc ?_ _)); exact BK228.out) hb); have n1_ := Aside0.mk (below_step (by repeat (first | (with_reducible first | exact HB.out | apply below_alloc | apply pw_below_drewN | apply below_drew1 | refine below_set ?_ GE228.out) | exact HB.out)) hb); clear BK228; clear HB; have BK228 := n0_; have HB := n1_; clear n0_ n1_; (try clear hb); (try clear hb2); (try clear hk); (try clear hi)) | (go_at_call 27; (with_reducible refine (field_GetLittle.calls k3 ((a0_1 ++ t231) ++ a0_2) (a0_1.size : Int) (wrap64 (1 + (Int.tmod (wrap64 (a0_0)) 7))) t234 t235 _ A35.out).mono ?_); rintro e w45 ⟨rfl, hb⟩; have n0_ := Aside0.mk (blk_below (g := gb228) (o := .cells #[.int .u8 a0_0, .string a0_1, .string a0_2] 45 (0, 0)) (by (with_reducible repeat (first | refine blk_drewN ?_ _ | refine blk_drew ?_ | refine blk_alloc ?_ _)); exact BK228.out) hb); have n1_ := Aside0.mk (below_step (by repeat (first | (with_reducible first | exact HB.out | apply below_alloc | apply pw_below_drewN | apply below_drew1 | refine below_set ?_ GE228.out) | exact HB.out)) hb); clear BK228; clear HB; have BK228 := n0_; have HB := n1_; clear n0_ n1_; (try clear hb); (try clear hb2); (try clear hk); (try clear hi))))
                                      go_ret
                                      exact ⟨by first | rfl | (simp [errW_none, errW_some] <;> rfl) | (simp only [← hji10, ← hji12]; first | rfl | (simp [errW_none, errW_some] <;> rfl)) | (simp [*, errW_none, errW_some] <;> rfl), by repeat (first | (with_reducible first | exact HB.out | apply below_alloc | apply pw_below_drewN | apply below_drew1 | refine below_set ?_ GE228.out) | exact HB.out)⟩
                                  · rw [if_neg c38] at H
                                    have c38b0 : (t232 == ji12) = false := beq_eq_false_iff_ne.mpr c38
                                    have c38b1 : (t232 != ji12) = true := bne_iff_ne.mpr c38
                                    obtain rfl := Option.some.inj H
                                    go_wp2_with (first | (go_at_call 25; (with_reducible refine (field_Get.calls k3 ((a0_1 ++ t230) ++ a0_2) (a0_1.size : Int) (wrap64 (1 + (Int.tmod (wrap64 (a0_0)) 7))) t232 t233 _ A32.out).mono ?_); rintro e w46 ⟨rfl, hb⟩; have n0_ := Aside0.mk (blk_below (g := gb228) (o := .cells #[.int .u8 a0_0, .string a0_1, .string a0_2] 45 (0, 0)) (by (with_reducible repeat (first | refine blk_drewN ?_ _ | refine blk_drew ?_ | refine blk_alloc ?_ _)); exact BK228.out) hb); have n1_ := Aside0.mk (below_step (by repeat (first | (with_reducible first | exact HB.out | apply below_alloc | apply pw_below_drewN | apply below_drew1 | refine below_set ?_ GE228.out) | exact HB.out)) hb); clear BK228; clear HB; have BK228 := n0_; have HB := n1_; clear n0_ n1_; (try clear hb); (try clear hb2); (try clear hk); (try clear hi)) | (go_at_call 27; (with_reducible refine (field_GetLittle.calls k3 ((a0_1 ++ t231) ++ a0_2) (a0_1.size : Int) (wrap64 (1 + (Int.tmod (wrap64 (a0_0)) 7))) t234 t235 _ A35.out).mono ?_); rintro e w47 ⟨rfl, hb⟩; have n0_ := Aside0.mk (blk_below (g := gb228) (o := .cells #[.int .u8 a0_0, .string a0_1, .string a0_2] 45 (0, 0)) (by (with_reducible repeat (first | refine blk_drewN ?_ _ | refine blk_drew ?_ | refine blk_alloc ?_ _)); exact BK228.out) hb); have n1_ := Aside0.mk (below_step (by repeat (first | (with_reducible first | exact HB.out | apply below_alloc | apply pw_below_drewN | apply below_drew1 | refine below_set ?_ GE228.out) | exact HB.out)) hb); clear BK228; clear HB; have BK228 := n0_; have HB := n1_; clear n0_ n1_; (try clear hb); (try clear hb2); (try clear hk); (try clear hi)))
                                    repeat (go_quiet (first | (go_at_call 25; (with_reducible refine (field_Get.calls k3 ((a0_1 ++ t230) ++ a0_2) (a0_1.size : Int) (wrap64 (1 + (Int.tmod (wrap64 (a0_0)) 7))) t232 t233 _ A32.out).mono ?_); rintro e w46 ⟨rfl, hb⟩; have n0_ := Aside0.mk (blk_below (g := gb228) (o := .cells #[.int .u8 a0_0, .string a0_1, .string a0_2] 45 (0, 0)) (by (with_reducible repeat (first | refine blk_drewN ?_ _ | refine blk_drew ?_ | refine blk_alloc ?_ _)); exact BK228.out) hb); have n1_ := Aside0.mk (below_step (by repeat (first | (with_reducible first | exact HB.out | apply below_alloc | apply pw_below_drewN | apply below_drew1 | refine below_set ?_ GE228.out) | exact HB.out)) hb); clear BK228; clear HB; have BK228 := n0_; have HB := n1_; clear n0_ n1_; (try clear hb); (try clear hb2); (try clear hk); (try clear hi)) | (go_at_call 27; (with_reducible refine (field_GetLittle.calls k3 ((a0_1 ++ t231) ++ a0_2) (a0_1.size : Int) (wrap64 (1 + (Int.tmod (wrap64 (a0_0)) 7))) t234 t235 _ A35.out).mono ?_); rintro e w47 ⟨rfl, hb⟩; have n0_ := Aside0.mk (blk_below (g := gb228) (o := .cells #[.int .u8 a0_0, .string a0_1, .string a0_2] 45 (0, 0)) (by (with_reducible repeat (first | refine blk_drewN ?_ _ | refine blk_drew ?_ | refine blk_alloc ?_ _)); exact BK228.out) hb); have n1_ := Aside0.mk (below_step (by repeat (first | (with_reducible first | exact HB.out | apply below_alloc | apply pw_below_drewN | apply below_drew1 | refine below_set ?_ GE228.out) | exact HB.out)) hb); clear BK228; clear HB; have BK228 := n0_; have HB := n1_; clear n0_ n1_; (try clear hb); (try clear hb2); (try clear hk); (try clear hi))); try go_wp2_with (first | (go_at_call 25; (with_reducible refine (field_Get.calls k3 ((a0_1 ++ t230) ++ a0_2) (a0_1.size : Int) (wrap64 (1 + (Int.tmod (wrap64 (a0_0)) 7))) t232 t233 _ A32.out).mono ?_); rintro e w46 ⟨rfl, hb⟩; have n0_ := Aside0.mk (blk_below (g := gb228) (o := .cells #[.int .u8 a0_0, .string a0_1, .string a0_2] 45 (0, 0)) (by (with_reducible repeat (first | refine blk_drewN ?_ _ | refine blk_drew ?_ | refine blk_alloc ?_ _)); exact BK228.out) hb); have n1_ := Aside0.mk (below_step (by repeat (first | (with_reducible first | exact HB.out | apply below_alloc | apply pw_below_drewN | apply below_drew1 | refine below_set ?_ GE228.out) | exact HB.out)) hb); clear BK228; clear HB; have BK228 := n0_; have HB := n1_; clear n0_ n1_; (try clear hb); (try clear hb2); (try clear hk); (try clear hi)) | (go_at_call 27; (with_reducible refine (field_GetLittle.calls k3 ((a0_1 ++ t231) ++ a0_2) (a0_1.size : Int) (wrap64 (1 + (Int.tmod (wrap64 (a0_0)) 7))) t234 t235 _ A35.out).mono ?_); rintro e w47 ⟨rfl, hb⟩; have n0_ := Aside0.mk (blk_below (g := gb228) (o := .cells #[.int .u8 a0_0, .string a0_1, .string a0_2] 45 (0, 0)) (by (with_reducible repeat (first | refine blk_drewN ?_ _ | refine blk_drew ?_ | refine blk_alloc ?_ _)); exact BK228.out) hb); have n1_ := Aside0.mk (below_step (by repeat (first | (with_reducible first | exact HB.out | apply below_alloc | apply pw_below_drewN | apply below_drew1 | refine below_set ?_ GE228.out) | exact HB.out)) hb); clear BK228; clear HB; have BK228 := n0_; have HB := n1_; clear n0_ n1_; (try clear hb); (try clear hb2); (try clear hk); (try clear hi))))
                                    go_ret
                                    exact ⟨by first | rfl | (simp [errW_none, errW_some] <;> rfl) | (simp only [← hji10, ← hji12]; first | rfl | (simp [errW_none, errW_some] <;> rfl)) | (simp [*, errW_none, errW_some] <;> rfl), by repeat (first | (with_reducible first | exact HB.out | apply below_alloc | apply pw_below_drewN | apply below_drew1 | refine below_set ?_ GE228.out) | exact HB.out)⟩
                                · rw [if_neg c37] at H
                                  have c37b0 : (t235 == 0) = false := beq_eq_false_iff_ne.mpr c37
                                  have c37b1 : (t235 != 0) = true := bne_iff_ne.mpr c37
                                  obtain rfl := Option.some.inj H
                                  go_wp2_with (first | (go_at_call 25; (with_reducible refine (field_Get.calls k3 ((a0_1 ++ t230) ++ a0_2) (a0_1.size : Int) (wrap64 (1 + (Int.tmod (wrap64 (a0_0)) 7))) t232 t233 _ A32.out).mono ?_); rintro e w48 ⟨rfl, hb⟩; have n0_ := Aside0.mk (blk_below (g := gb228) (o := .cells #[.int .u8 a0_0, .string a0_1, .string a0_2] 45 (0, 0)) (by (with_reducible repeat (first | refine blk_drewN ?_ _ | refine blk_drew ?_ | refine blk_alloc ?_ _)); exact BK228.out) hb); have n1_ := Aside0.mk (below_step (by repeat (first | (with_reducible first | exact HB.out | apply below_alloc | apply pw_below_drewN | apply below_drew1 | refine below_set ?_ GE228.out) | exact HB.out)) hb); clear BK228; clear HB; have BK228 := n0_; have HB := n1_; clear n0_ n1_; (try clear hb); (try clear hb2); (try clear hk); (try clear hi)) | (go_at_call 27; (with_reducible refine (field_GetLittle.calls k3 ((a0_1 ++ t231) ++ a0_2) (a0_1.size : Int) (wrap64 (1 + (Int.tmod (wrap64 (a0_0)) 7))) t234 t235 _ A35.out).mono ?_); rintro e w49 ⟨rfl, hb⟩; have n0_ := Aside0.mk (blk_below (g := gb228) (o := .cells #[.int .u8 a0_0, .string a0_1, .string a0_2] 45 (0, 0)) (by (with_reducible repeat (first | refine blk_drewN ?_ _ | refine blk_drew ?_ | refine blk_alloc ?_ _)); exact BK228.out) hb); have n1_ := Aside0.mk (below_step (by repeat (first | (with_reducible first | exact HB.out | apply below_alloc | apply pw_below_drewN | apply below_drew1 | refine below_set ?_ GE228.out) | exact HB.out)) hb); clear BK228; clear HB; have BK228 := n0_; have HB := n1_; clear n0_ n1_; (try clear hb); (try clear hb2); (try clear hk); (try clear hi)))
                                  repeat (go_quiet (first | (go_at_call 25; (with_reducible refine (field_Get.calls k3 ((a0_1 ++ t230) ++ a0_2) (a0_1.size : Int) (wrap64 (1 + (Int.tmod (wrap64 (a0_0)) 7))) t232 t233 _ A32.out).mono ?_); rintro e w48 ⟨rfl, hb⟩; have n0_ := Aside0.mk (blk_below (g := gb228) (o := .cells #[.int .u8 a0_0, .string a0_1, .string a0_2] 45 (0, 0)) (by (with_reducible repeat (first | refine blk_drewN ?_ _ | refine blk_drew ?_ | refine blk_alloc ?_ _)); exact BK228.out) hb); have n1_ := Aside0.mk (below_step (by repeat (first | (with_reducible first | exact HB.out | apply below_alloc | apply pw_below_drewN | apply below_drew1 | refine below_set ?_ GE228.out) | exact HB.out)) hb); clear BK228; clear HB; have BK228 := n0_; have HB := n1_; clear n0_ n1_; (try clear hb); (try clear hb2); (try clear hk); (try clear hi)) | (go_at_call 27; (with_reducible refine (field_GetLittle.calls k3 ((a0_1 ++ t231) ++ a0_2) (a0_1.size : Int) (wrap64 (1 + (Int.tmod (wrap64 (a0_0)) 7))) t234 t235 _ A35.out).mono ?_); rintro e w49 ⟨rfl, hb⟩; have n0_ := Aside0.mk (blk_below (g := gb228) (o := .cells #[.int .u8 a0_0, .string a0_1, .string a0_2] 45 (0, 0)) (by (with_reducible repeat (first | refine blk_drewN ?_ _ | refine blk_drew ?_ | refine blk_alloc ?_ _)); exact BK228.out) hb); have n1_ := Aside0.mk (below_step (by repeat (first | (with_reducible first | exact HB.out | apply below_alloc | apply pw_below_drewN | apply below_drew1 | refine below_set ?_ GE228.out) | exact HB.out)) hb); clear BK228; clear HB; have BK228 := n0_; have HB := n1_; clear n0_ n1_; (try clear hb); (try clear hb2); (try clear hk); (try clear hi))); try go_wp2_with (first | (go_at_call 25; (with_reducible refine (field_Get.calls k3 ((a0_1 ++ t230) ++ a0_2) (a0_1.size : Int) (wrap64 (1 + (Int.tmod (wrap64 (a0_0)) 7))) t232 t233 _ A32.out).mono ?_); rintro e w48 ⟨rfl, hb⟩; have n0_ := Aside0.mk (blk_below (g := gb228) (o := .cells #[.int .u8 a0_0, .string a0_1, .string a0_2] 45 (0, 0)) (by (with_reducible repeat (first | refine blk_drewN ?_ _ | refine blk_drew ?_ | refine blk_alloc ?_ _)); exact BK228.out) hb); have n1_ := Aside0.mk (below_step (by repeat (first | (with_reducible first | exact HB.out | apply below_alloc | apply pw_below_drewN | apply below_drew1 | refine below_set ?_ GE228.out) | exact HB.out)) hb); clear BK228; clear HB; have BK228 := n0_; have HB := n1_; clear n0_ n1_; (try clear hb); (try clear hb2); (try clear hk); (try clear hi)) | (go_at_call 27; (with_reducible refine (field_GetLittle.calls k3 ((a0_1 ++ t231) ++ a0_2) (a0_1.size : Int) (wrap64 (1 + (Int.tmod (wrap64 (a0_0)) 7))) t234 t235 _ A35.out).mono ?_); rintro e w49 ⟨rfl, hb⟩; have n0_ := Aside0.mk (blk_below (g := gb228) (o := .cells #[.int .u8 a0_0, .string a0_1, .string a0_2] 45 (0, 0)) (by (with_reducible repeat (first | refine blk_drewN ?_ _ | refine blk_drew ?_ | refine blk_alloc ?_ _)); exact BK228.out) hb); have n1_ := Aside0.mk (below_step (by repeat (first | (with_reducible first | exact HB.out | apply below_alloc | apply pw_below_drewN | apply below_drew1 | refine below_set ?_ GE228.out) | exact HB.out)) hb); clear BK228; clear HB; have BK228 := n0_; have HB := n1_; clear n0_ n1_; (try clear hb); (try clear hb2); (try clear hk); (try clear hi))))
                                  go_ret
                                  exact ⟨by first | rfl | (simp [errW_none, errW_some] <;> rfl) | (simp only [← hji10, ← hji12]; first | rfl | (simp [errW_none, errW_some] <;> rfl)) | (simp [*, errW_none, errW_some] <;> rfl), by repeat (first | (with_reducible first | exact HB.out | apply below_alloc | apply pw_below_drewN | apply below_drew1 | refine below_set ?_ GE228.out) | exact HB.out)⟩
                              · rw [if_neg c36] at H
                                have c36b0 : (t233 == 0) = false := beq_eq_false_iff_ne.mpr c36
                                have c36b1 : (t233 != 0) = true := bne_iff_ne.mpr c36
                                obtain rfl := Option.some.inj H
                                go_wp2_with (first | (go_at_call 25; (with_reducible refine (field_Get.calls k3 ((a0_1 ++ t230) ++ a0_2) (a0_1.size : Int) (wrap64 (1 + (Int.tmod (wrap64 (a0_0)) 7))) t232 t233 _ A32.out).mono ?_); rintro e w50 ⟨rfl, hb⟩; have n0_ := Aside0.mk (blk_below (g := gb228) (o := .cells #[.int .u8 a0_0, .string a0_1, .string a0_2] 45 (0, 0)) (by (with_reducible repeat (first | refine blk_drewN ?_ _ | refine blk_drew ?_ | refine blk_alloc ?_ _)); exact BK228.out) hb); have n1_ := Aside0.mk (below_step (by repeat (first | (with_reducible first | exact HB.out | apply below_alloc | apply pw_below_drewN | apply below_drew1 | refine below_set ?_ GE228.out) | exact HB.out)) hb); clear BK228; clear HB; have BK228 := n0_; have HB := n1_; clear n0_ n1_; (try clear hb); (try clear hb2); (try clear hk); (try clear hi)) | (go_at_call 27; (with_reducible refine (field_GetLittle.calls k3 ((a0_1 ++ t231) ++ a0_2) (a0_1.size : Int) (wrap64 (1 + (Int.tmod (wrap64 (a0_0)) 7))) t234 t235 _ A35.out).mono ?_); rintro e w51 ⟨rfl, hb⟩; have n0_ := Aside0.mk (blk_below (g := gb228) (o := .cells #[.int .u8 a0_0, .string a0_1, .string a0_2] 45 (0, 0)) (by (with_reducible repeat (first | refine blk_drewN ?_ _ | refine blk_drew ?_ | refine blk_alloc ?_ _)); exact BK228.out) hb); have n1_ := Aside0.mk (below_step (by repeat (first | (with_reducible first | exact HB.out | apply below_alloc | apply pw_below_drewN | apply below_drew1 | refine below_set ?_ GE228.out) | exact HB.out)) hb); clear BK228; clear HB; have BK228 := n0_; have HB := n1_; clear n0_ n1_; (try clear hb); (try clear hb2); (try clear hk); (try clear hi)))
                                repeat (go_quiet (first | (go_at_call 25; (with_reducible refine (field_Get.calls k3 ((a0_1 ++ t230) ++ a0_2) (a0_1.size : Int) (wrap64 (1 + (Int.tmod (wrap64 (a0_0)) 7))) t232 t233 _ A32.out).mono ?_); rintro e w50 ⟨rfl, hb⟩; have n0_ := Aside0.mk (blk_below (g := gb228) (o := .cells #[.int .u8 a0_0, .string a0_1, .string a0_2] 45 (0, 0)) (by (with_reducible repeat (first | refine blk_drewN ?_ _ | refine blk_drew ?_ | refine blk_alloc ?_ _)); exact BK228.out) hb); have n1_ := Aside0.mk (below_step (by repeat (first | (with_reducible first | exact HB.out | apply below_alloc | apply pw_below_drewN | apply below_drew1 | refine below_set ?_ GE228.out) | exact HB.out)) hb); clear BK228; clear HB; have BK228 := n0_; have HB := n1_; clear n0_ n1_; (try clear hb); (try clear hb2); (try clear hk); (try clear hi)) | (go_at_call 27; (with_reducible refine (field_GetLittle.calls k3 ((a0_1 ++ t231) ++ a0_2) (a0_1.size : Int) (wrap64 (1 + (Int.tmod (wrap64 (a0_0)) 7))) t234 t235 _ A35.out).mono ?_); rintro e w51 ⟨rfl, hb⟩; have n0_ := Aside0.mk (blk_below (g := gb228) (o := .cells #[.int .u8 a0_0, .string a0_1, .string a0_2] 45 (0, 0)) (by (with_reducible repeat (first | refine blk_drewN ?_ _ | refine blk_drew ?_ | refine blk_alloc ?_ _)); exact BK228.out) hb); have n1_ := Aside0.mk (below_step (by repeat (first | (with_reducible first | exact HB.out | apply below_alloc | apply pw_below_drewN | apply below_drew1 | refine below_set ?_ GE228.out) | exact HB.out)) hb); clear BK228; clear HB; have BK228 := n0_; have HB := n1_; clear n0_ n1_; (try clear hb); (try clear hb2); (try clear hk); (try clear hi))); try go_wp2_with (first | (go_at_call 25; (with_reducible refine (field_Get.calls k3 ((a0_1 ++ t230) ++ a0_2) (a0_1.size : Int) (wrap64 (1 + (Int.tmod (wrap64 (a0_0)) 7))) t232 t233 _ A32.out).mono ?_); rintro e w50 ⟨rfl, hb⟩; have n0_ := Aside0.mk (blk_below (g := gb228) (o := .cells #[.int .u8 a0_0, .string a0_1, .string a0_2] 45 (0, 0)) (by (with_reducible repeat (first | refine blk_drewN ?_ _ | refine blk_drew ?_ | refine blk_alloc ?_ _)); exact BK228.out) hb); have n1_ := Aside0.mk (below_step (by repeat (first | (with_reducible first | exact HB.out | apply below_alloc | apply pw_below_drewN | apply below_drew1 | refine below_set ?_ GE228.out) | exact HB.out)) hb); clear BK228; clear HB; have BK228 := n0_; have HB := n1_; clear n0_ n1_; (try clear hb); (try clear hb2); (try clear hk); (try clear hi)) | (go_at_call 27; (with_reducible refine (field_GetLittle.calls k3 ((a0_1 ++ t231) ++ a0_2) (a0_1.size : Int) (wrap64 (1 + (Int.tmod (wrap64 (a0_0)) 7))) t234 t235 _ A35.out).mono ?_); rintro e w51 ⟨rfl, hb⟩; have n0_ := Aside0.mk (blk_below (g := gb228) (o := .cells #[.int .u8 a0_0, .string a0_1, .string a0_2] 45 (0, 0)) (by (with_reducible repeat (first | refine blk_drewN ?_ _ | refine blk_drew ?_ | refine blk_alloc ?_ _)); exact BK228.out) hb); have n1_ := Aside0.mk (below_step (by repeat (first | (with_reducible first | exact HB.out | apply below_alloc | apply pw_below_drewN | apply below_drew1 | refine below_set ?_ GE228.out) | exact HB.out)) hb); clear BK228; clear HB; have BK228 := n0_; have HB := n1_; clear n0_ n1_; (try clear hb); (try clear hb2); (try clear hk); (try clear hi))))
                                go_ret
                                exact ⟨by first | rfl | (simp [errW_none, errW_some] <;> rfl) | (simp only [← hji10, ← hji12]; first | rfl | (simp [errW_none, errW_some] <;> rfl)) | (simp [*, errW_none, errW_some] <;> rfl), by repeat (first | (with_reducible first | exact HB.out | apply below_alloc | apply pw_below_drewN | apply below_drew1 | refine below_set ?_ GE228.out) | exact HB.out)⟩
                            · rw [if_neg c34] at H
                              exact absurd H (by simp)
                          · rw [if_neg c33] at H
                            exact absurd H (by simp)
                        · rw [if_neg c31] at H
                          exact absurd H (by simp)
                      · rw [if_neg c30] at H
                        exact absurd H (by simp)
        · rw [if_neg c11] at H
          exact absurd H (by simp)

end Go.Proofs.Ytmkhmlgihkaphaa.X
