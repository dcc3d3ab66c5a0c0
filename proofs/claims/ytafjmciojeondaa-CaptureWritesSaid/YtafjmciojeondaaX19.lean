/- What the functions of the translation that this claim's statement reaches compute, each proved by its walk. Written by xprint.py, a program of this claim's author, run over the kit's printer. -/
import Derived.Test.YtafjmciojeondaaX0
import Derived.Test.YtafjmciojeondaaX6
import Derived.Test.YtafjmciojeondaaX7
import Derived.Test.YtafjmciojeondaaX9
import Derived.Test.YtafjmciojeondaaX16
namespace Go.Proofs.Ytafjmciojeondaa.X
open Go.RowKit Go.Proofs.YtafjmciojeondaaW.PrintWords Go.Proofs.YtafjmciojeondaaW.PrintLast Go.Proofs.YtafjmciojeondaaW.PrintMore
attribute [local go_sem] max2_int min2_int max_two min_two max_three min_three max_four min_four   -- for this text's walks alone
set_option linter.unusedVariables false
set_option linter.unusedSimpArgs false

/-! ### intrusionlaw09_CaptureWrites: function 4 -/
def intrusionlaw09_CaptureWrites.f (k : Nat) (l0 : List (S33)) : Option (Bool) := (intrusionref09_Long.f k l0).bind fun t393 => (if t393 = true then ((intrusionlaw09_lives.f k).bind fun t394 => (some t394)) else ((capture_Write.f k l0).bind fun bt395 => ((intrusionref09_Write.f k l0).bind fun bt397 => (if bt395.1.toList = bt397.1.toList then (if bt395.2 = bt397.2 then ((intrusionlaw09_lives.f k).bind fun t399 => (some t399)) else (none)) else (none)))))
theorem intrusionlaw09_CaptureWrites.mono : ∀ a0 k, LeO (intrusionlaw09_CaptureWrites.f k a0) (intrusionlaw09_CaptureWrites.f (k + 1) a0) := by
 intro a0 k
 unfold intrusionlaw09_CaptureWrites.f
 repeat' first
   | (with_reducible exact capture_Write.mono _ _)
   | (with_reducible exact intrusionlaw09_lives.mono _)
   | (with_reducible exact intrusionref09_Long.mono _ _)
   | (with_reducible exact intrusionref09_Write.mono _ _)
   | (with_reducible exact LeO.refl _)
   | (with_reducible exact LeO.none _)
   | (with_reducible refine LeO.ite ?_ ?_)
   | (with_reducible refine LeO.bind ?_ (fun _ => ?_))
   | exact capture_Write.mono _ _
   | exact intrusionlaw09_lives.mono _
   | exact intrusionref09_Long.mono _ _
   | exact intrusionref09_Write.mono _ _
   | exact LeO.none _
   | refine LeO.ite ?_ ?_
   | refine LeO.bind ?_ (fun _ => ?_)
set_option maxHeartbeats 8000000 in
set_option maxRecDepth 100000 in
theorem intrusionlaw09_CaptureWrites.calls (k : Nat) (A0 : Option Addr) (c0 : Nat) (l0 : List (S33)) (r : Bool) (w : World) (hr0 : Kd.C k33 w A0 l0.length l0) (hc0 : l0.length ≤ c0) (h : intrusionlaw09_CaptureWrites.f k l0 = some r) :
  Calls Try.prog 4 #[.slice A0 l0.length c0] w fun e w' => e = .returned (.bool r) ∧ Below w.heap.size w w' := by
 have HR0 := Aside0.mk hr0
 have HC0 := Aside0.mk hc0
 clear hr0 hc0
 have HB := Aside0.mk (Below.refl w.heap.size w)
 have H : ((intrusionref09_Long.f k l0).bind fun t393 => (if t393 = true then ((intrusionlaw09_lives.f k).bind fun t394 => (some t394)) else ((capture_Write.f k l0).bind fun bt395 => ((intrusionref09_Write.f k l0).bind fun bt397 => (if bt395.1.toList = bt397.1.toList then (if bt395.2 = bt397.2 then ((intrusionlaw09_lives.f k).bind fun t399 => (some t399)) else (none)) else (none)))))) = some r := h
 clear h
 replace H := Option.bind_eq_some_iff.mp H
 obtain ⟨t393, A20, H⟩ := H
 replace H : (if t393 = true then ((intrusionlaw09_lives.f k).bind fun t394 => (some t394)) else ((capture_Write.f k l0).bind fun bt395 => ((intrusionref09_Write.f k l0).bind fun bt397 => (if bt395.1.toList = bt397.1.toList then (if bt395.2 = bt397.2 then ((intrusionlaw09_lives.f k).bind fun t399 => (some t399)) else (none)) else (none))))) = some r := H
 have A2 := Aside0.mk A20
 clear A20
 by_cases c3 : t393 = true
 ·subst c3
  have H1 : ((intrusionlaw09_lives.f k).bind fun t394 => (some t394)) = some r := by rw [if_pos rfl] at H; exact H
  clear H
  have H := H1
  clear H1
  replace H := Option.bind_eq_some_iff.mp H
  obtain ⟨t394, A40, H⟩ := H
  replace H : (some t394) = some r := H
  have A4 := Aside0.mk A40
  clear A40
  obtain rfl := Option.some.inj H
  go_enter Try.func4, Try.ntmps4
  go_wp2_with (first | ((with_reducible refine gate_callee (f := 15) rfl ?_); refine goesL_ (some 8) rfl rfl Try.func15 (by kernel_rfl) rfl #[.slice A0 l0.length c0] rfl (by (try simp only [List.map_toArray, List.map_cons, List.map_nil]); first | done | rfl | (simp only [List.length_drop, List.length_take]; rfl)) ?_; (with_reducible refine (intrusionref09_Long.calls k _ _ l0 true _ ?side1 ?side2 A2.out).mono ?_); (case side1 => repeat (first | exact HR0.out | (with_reducible refine Kd.C_alloc ?_ _) | (with_reducible refine Kd.C_drewN ?_ _) | (with_reducible refine Kd.C_drew ?_))); (case side2 => exact HC0.out); rintro e w' ⟨rfl, ⟨nd, rfl⟩⟩; refine ⟨_, rfl, ?_⟩) | ((with_reducible refine gate_callee (f := 11) rfl ?_); refine goesL_ (some 9) rfl rfl Try.func11 (by kernel_rfl) rfl #[] rfl (by (try simp only [List.map_toArray, List.map_cons, List.map_nil]); first | done | rfl | (simp only [List.length_drop, List.length_take]; rfl)) ?_; (with_reducible refine (intrusionlaw09_lives.calls k  t394 _ A4.out).mono ?_); rintro e w5 ⟨rfl, hb⟩; refine ⟨_, rfl, ?_⟩; have n0_ := Aside0.mk (below_step (by repeat (first | (with_reducible first | exact HB.out | apply below_alloc | apply pw_below_drewN | apply below_drew1) | exact HB.out)) hb); clear HB; have HB := n0_; clear n0_; (try clear hb); (try clear hb2); (try clear hk); (try clear hi)))
  go_ret
  exact ⟨by first | rfl | (simp [errW_none, errW_some] <;> rfl) | (simp [*, errW_none, errW_some] <;> rfl), by repeat (first | (with_reducible first | exact HB.out | apply below_alloc | apply pw_below_drewN | apply below_drew1) | exact HB.out)⟩
 ·replace c3 := Bool.eq_false_iff.mpr c3
  subst c3
  have H1 : ((capture_Write.f k l0).bind fun bt395 => ((intrusionref09_Write.f k l0).bind fun bt397 => (if bt395.1.toList = bt397.1.toList then (if bt395.2 = bt397.2 then ((intrusionlaw09_lives.f k).bind fun t399 => (some t399)) else (none)) else (none)))) = some r := by rw [if_neg (show ¬ (false = true) by decide)] at H; exact H
  clear H
  have H := H1
  clear H1
  replace H := Option.bind_eq_some_iff.mp H
  obtain ⟨⟨t395, t396⟩, A60, H⟩ := H
  replace H : ((intrusionref09_Write.f k l0).bind fun bt397 => (if t395.toList = bt397.1.toList then (if t396 = bt397.2 then ((intrusionlaw09_lives.f k).bind fun t399 => (some t399)) else (none)) else (none))) = some r := H
  have A6 := Aside0.mk A60
  clear A60
  replace H := Option.bind_eq_some_iff.mp H
  obtain ⟨⟨t397, t398⟩, A70, H⟩ := H
  replace H : (if t395.toList = t397.toList then (if t396 = t398 then ((intrusionlaw09_lives.f k).bind fun t399 => (some t399)) else (none)) else (none)) = some r := H
  have A7 := Aside0.mk A70
  clear A70
  by_cases c8 : t395.toList = t397.toList
  ·rw [if_pos c8] at H
   have c8b0 : (t395.toList == t397.toList) = true := beq_iff_eq.mpr c8
   have c8b1 : (t395.toList != t397.toList) = false := bne_eq_false_iff_eq.mpr c8
   clear c8
   by_cases c9 : t396 = t398
   ·rw [if_pos c9] at H
    have c9b0 : (t396 == t398) = true := beq_iff_eq.mpr c9
    have c9b1 : (t396 != t398) = false := bne_eq_false_iff_eq.mpr c9
    clear c9
    replace H := Option.bind_eq_some_iff.mp H
    obtain ⟨t399, A100, H⟩ := H
    replace H : (some t399) = some r := H
    have A10 := Aside0.mk A100
    clear A100
    obtain rfl := Option.some.inj H
    go_enter Try.func4, Try.ntmps4
    go_wp2_with (first | ((with_reducible refine gate_callee (f := 15) rfl ?_); refine goesL_ (some 8) rfl rfl Try.func15 (by kernel_rfl) rfl #[.slice A0 l0.length c0] rfl (by (try simp only [List.map_toArray, List.map_cons, List.map_nil]); first | done | rfl | (simp only [List.length_drop, List.length_take]; rfl)) ?_; (with_reducible refine (intrusionref09_Long.calls k _ _ l0 false _ ?side1 ?side2 A2.out).mono ?_); (case side1 => repeat (first | exact HR0.out | (with_reducible refine Kd.C_alloc ?_ _) | (with_reducible refine Kd.C_drewN ?_ _) | (with_reducible refine Kd.C_drew ?_))); (case side2 => exact HC0.out); rintro e w' ⟨rfl, ⟨nd, rfl⟩⟩; refine ⟨_, rfl, ?_⟩) | ((with_reducible refine gate_callee (f := 16) rfl ?_); refine goesL_ (some 12) rfl rfl Try.func16 (by kernel_rfl) rfl #[.slice A0 l0.length c0] rfl (by (try simp only [List.map_toArray, List.map_cons, List.map_nil]); first | done | rfl | (simp only [List.length_drop, List.length_take]; rfl)) ?_; (with_reducible refine (capture_Write.calls k _ _ l0 t395 t396 _ ?side1 ?side2 A6.out).mono ?_); (case side1 => repeat (first | exact HR0.out | (with_reducible refine Kd.C_alloc ?_ _) | (with_reducible refine Kd.C_drewN ?_ _) | (with_reducible refine Kd.C_drew ?_))); (case side2 => exact HC0.out); rintro e w11 ⟨rfl, hb⟩; refine ⟨_, rfl, ?_⟩; have n0_ := Aside0.mk (below_step (by repeat (first | (with_reducible first | exact HB.out | apply below_alloc | apply pw_below_drewN | apply below_drew1) | exact HB.out)) hb); clear HB; have HB := n0_; clear n0_; (try clear hb); (try clear hb2); (try clear hk); (try clear hi)) | ((with_reducible refine gate_callee (f := 17) rfl ?_); refine goesL_ (some 17) rfl rfl Try.func17 (by kernel_rfl) rfl #[.slice A0 l0.length c0] rfl (by (try simp only [List.map_toArray, List.map_cons, List.map_nil]); first | done | rfl | (simp only [List.length_drop, List.length_take]; rfl)) ?_; (with_reducible refine (intrusionref09_Write.calls k _ _ l0 t397 t398 _ ?side1 ?side2 A7.out).mono ?_); (case side1 => repeat (first | exact (Kd.C_below HR0.out HB.out) | (with_reducible refine Kd.C_alloc ?_ _) | (with_reducible refine Kd.C_drewN ?_ _) | (with_reducible refine Kd.C_drew ?_))); (case side2 => exact HC0.out); rintro e w12 ⟨rfl, hb⟩; refine ⟨_, rfl, ?_⟩; have n0_ := Aside0.mk (below_step (by repeat (first | (with_reducible first | exact HB.out | apply below_alloc | apply pw_below_drewN | apply below_drew1) | exact HB.out)) hb); clear HB; have HB := n0_; clear n0_; (try clear hb); (try clear hb2); (try clear hk); (try clear hi)) | (go_at_call 11; (with_reducible refine (intrusionlaw09_lives.calls k  t399 _ A10.out).mono ?_); rintro e w13 ⟨rfl, hb⟩; have n0_ := Aside0.mk (below_step (by repeat (first | (with_reducible first | exact HB.out | apply below_alloc | apply pw_below_drewN | apply below_drew1) | exact HB.out)) hb); clear HB; have HB := n0_; clear n0_; (try clear hb); (try clear hb2); (try clear hk); (try clear hi)))
    go_ret
    exact ⟨by first | rfl | (simp [errW_none, errW_some] <;> rfl) | (simp [*, errW_none, errW_some] <;> rfl), by repeat (first | (with_reducible first | exact HB.out | apply below_alloc | apply pw_below_drewN | apply below_drew1) | exact HB.out)⟩
   ·rw [if_neg c9] at H
    exact absurd H (by simp)
  ·rw [if_neg c8] at H
   exact absurd H (by simp)

end Go.Proofs.Ytafjmciojeondaa.X
