/- Functions and their walks, printed by xprint.py. -/
import Derived.Test.YtafjmciojeondaaX0
import Derived.Test.YtafjmciojeondaaX5
import Derived.Test.YtafjmciojeondaaX6
import Derived.Test.YtafjmciojeondaaX7
import Derived.Test.YtafjmciojeondaaX8
import Derived.Test.YtafjmciojeondaaX9
namespace Go.Proofs.Ytafjmciojeondaa.X
open Go.RowKit Go.Proofs.YtafjmciojeondaaW.PrintWords Go.Proofs.YtafjmciojeondaaW.PrintLast Go.Proofs.YtafjmciojeondaaW.PrintMore
attribute [local go_sem] max2_int min2_int max_two min_two max_three min_three max_four min_four   -- for this text's walks alone
set_option linter.unusedVariables false
set_option linter.unusedSimpArgs false

/-! ### intrusionlaw09_CaptureRoundTrip: function 9 -/
def intrusionlaw09_CaptureRoundTrip.j0 : Nat → List (S33) → ByteArray → Int → Bool → Option (Bool)
 | 0, _, _, _, _ => none
 | k + 1, x0, x3, x4, x26 => if x26 = true then (if x4 = 0 then (none) else (some (x3.toList == ([] : List UInt8)))) else ((capture_Read.f k x3).bind fun bt573 => (if 0 ≤ (wrap64 ((x3.size : Int) - 1)) then (if (wrap64 ((x3.size : Int) - 1)) ≤ (x3.size : Int) then ((capture_Read.f k (x3.extract 0 ((wrap64 ((x3.size : Int) - 1)) : Int).toNat)).bind fun bt578 => ((intrusionref09_Same.f k bt573.1 x0).bind fun t583 => (if t583 = true then (if bt573.2.1 = 0 then (if bt573.2.2 = 0 then (some (bt578.2.1 == 1)) else (none)) else (none)) else (none)))) else (none)) else (none)))
def intrusionlaw09_CaptureRoundTrip.f (k : Nat) (l0 : List (S33)) : Option (Bool) := (intrusionlaw09_lives.f k).bind fun t569 => (if t569 = true then ((intrusionref09_Long.f k l0).bind fun t570 => (if t570 = true then (some true) else ((capture_Write.f k l0).bind fun bt571 => (if bt571.2 = 0 then (intrusionlaw09_CaptureRoundTrip.j0 k l0 bt571.1 bt571.2 (decide ((bt571.1.size : Int) < 24))) else (intrusionlaw09_CaptureRoundTrip.j0 k l0 bt571.1 bt571.2 true))))) else (none))
theorem intrusionlaw09_CaptureRoundTrip.mono_l : ∀ k, (∀ y0 y1 y2 y3, LeO (intrusionlaw09_CaptureRoundTrip.j0 k y0 y1 y2 y3) (intrusionlaw09_CaptureRoundTrip.j0 (k + 1) y0 y1 y2 y3))
 | 0 => fun _ _ _ _ r h => by simp [intrusionlaw09_CaptureRoundTrip.j0] at h
 | k + 1 => by
  have ih0 := intrusionlaw09_CaptureRoundTrip.mono_l k
  intro y0 y1 y2 y3
  unfold intrusionlaw09_CaptureRoundTrip.j0
  repeat' first | with_reducible first | apply ih0 | apply capture_Read.mono | apply capture_Write.mono | apply intrusionlaw09_lives.mono | apply intrusionref09_Long.mono | apply intrusionref09_Same.mono | apply LeO.refl | apply LeO.none | refine LeO.ite ?_ ?_ | refine LeO.bind ?_ (fun _ => ?_)
theorem intrusionlaw09_CaptureRoundTrip.mono : ∀ a0 k, LeO (intrusionlaw09_CaptureRoundTrip.f k a0) (intrusionlaw09_CaptureRoundTrip.f (k + 1) a0) := by
 intro a0 k
 have ih0 := intrusionlaw09_CaptureRoundTrip.mono_l k
 unfold intrusionlaw09_CaptureRoundTrip.f
 repeat' first | with_reducible first | apply ih0 | apply capture_Read.mono | apply capture_Write.mono | apply intrusionlaw09_lives.mono | apply intrusionref09_Long.mono | apply intrusionref09_Same.mono | apply LeO.refl | apply LeO.none | refine LeO.ite ?_ ?_ | refine LeO.bind ?_ (fun _ => ?_)
set_option maxHeartbeats 8000000 in
set_option maxRecDepth 100000 in
theorem intrusionlaw09_CaptureRoundTrip.calls (k : Nat) (A0 : Option Addr) (c0 : Nat) (l0 : List (S33)) (r : Bool) (w : World) (hr0 : Kd.C k33 w A0 l0.length l0) (hc0 : l0.length ≤ c0) (h : intrusionlaw09_CaptureRoundTrip.f k l0 = some r) :
  Calls Try.prog 9 #[.slice A0 l0.length c0] w fun e w' => e = .returned (.bool r) ∧ Below w.heap.size w w' := by
 have HR0 := As hr0
 have HC0 := As hc0
 clear hr0 hc0
 have HB := As (Below.refl w.heap.size w)
 have H : ((intrusionlaw09_lives.f k).bind fun t569 => (if t569 = true then ((intrusionref09_Long.f k l0).bind fun t570 => (if t570 = true then (some true) else ((capture_Write.f k l0).bind fun bt571 => (if bt571.2 = 0 then (intrusionlaw09_CaptureRoundTrip.j0 k l0 bt571.1 bt571.2 (decide ((bt571.1.size : Int) < 24))) else (intrusionlaw09_CaptureRoundTrip.j0 k l0 bt571.1 bt571.2 true))))) else (none))) = some r := h
 clear h
 replace H := Option.bind_eq_some_iff.mp H
 obtain ⟨t569, A20, H⟩ := H
 replace H : (if t569 = true then ((intrusionref09_Long.f k l0).bind fun t570 => (if t570 = true then (some true) else ((capture_Write.f k l0).bind fun bt571 => (if bt571.2 = 0 then (intrusionlaw09_CaptureRoundTrip.j0 k l0 bt571.1 bt571.2 (decide ((bt571.1.size : Int) < 24))) else (intrusionlaw09_CaptureRoundTrip.j0 k l0 bt571.1 bt571.2 true))))) else (none)) = some r := H
 have A2 := As A20
 clear A20
 by_cases c3 : t569 = true
 ·subst c3
  have H1 : ((intrusionref09_Long.f k l0).bind fun t570 => (if t570 = true then (some true) else ((capture_Write.f k l0).bind fun bt571 => (if bt571.2 = 0 then (intrusionlaw09_CaptureRoundTrip.j0 k l0 bt571.1 bt571.2 (decide ((bt571.1.size : Int) < 24))) else (intrusionlaw09_CaptureRoundTrip.j0 k l0 bt571.1 bt571.2 true))))) = some r := by rw [if_pos rfl] at H; exact H
  clear H
  have H := H1
  clear H1
  replace H := Option.bind_eq_some_iff.mp H
  obtain ⟨t570, A40, H⟩ := H
  replace H : (if t570 = true then (some true) else ((capture_Write.f k l0).bind fun bt571 => (if bt571.2 = 0 then (intrusionlaw09_CaptureRoundTrip.j0 k l0 bt571.1 bt571.2 (decide ((bt571.1.size : Int) < 24))) else (intrusionlaw09_CaptureRoundTrip.j0 k l0 bt571.1 bt571.2 true)))) = some r := H
  have A4 := As A40
  clear A40
  by_cases c5 : t570 = true
  ·subst c5
   have H1 : (some true) = some r := by rw [if_pos rfl] at H; exact H
   clear H
   have H := H1
   clear H1
   obtain rfl := Option.some.inj H
   go_enter Try.func9, Try.ntmps9
   go_wp2_with (first | ((with_reducible refine gate_callee (f := 11) rfl ?_); refine goesL_ (some 11) rfl rfl Try.func11 (by kernel_rfl) rfl #[] rfl kA ?_; (with_reducible refine (intrusionlaw09_lives.calls k  true _ A2.out).mono ?_); rintro e w6 ⟨rfl, hb⟩; refine ⟨_, rfl, ?_⟩; replace HB := As (below_step (kB HB.out) hb); (try clear hb)) | ((with_reducible refine gate_callee (f := 15) rfl ?_); refine goesL_ (some 14) rfl rfl Try.func15 (by kernel_rfl) rfl #[.slice A0 l0.length c0] rfl kA ?_; (with_reducible refine (intrusionref09_Long.calls k _ _ l0 true _ ?side1 ?side2 A4.out).mono ?_); (case side1 => repeat (first | exact (Kd.C_below HR0.out HB.out) | (with_reducible refine Kd.C_alloc ?_ _) | (with_reducible refine Kd.C_drewN ?_ _) | (with_reducible refine Kd.C_drew ?_))); (case side2 => exact HC0.out); rintro e w' ⟨rfl, ⟨nd, rfl⟩⟩; refine ⟨_, rfl, ?_⟩))
   go_ret
   exact ⟨kE, by exact kB HB.out⟩
  replace c5 := Bool.eq_false_iff.mpr c5
  subst c5
  have H1 : ((capture_Write.f k l0).bind fun bt571 => (if bt571.2 = 0 then (intrusionlaw09_CaptureRoundTrip.j0 k l0 bt571.1 bt571.2 (decide ((bt571.1.size : Int) < 24))) else (intrusionlaw09_CaptureRoundTrip.j0 k l0 bt571.1 bt571.2 true))) = some r := by rw [if_neg (show ¬ (false = true) by decide)] at H; exact H
  clear H
  have H := H1
  clear H1
  replace H := Option.bind_eq_some_iff.mp H
  obtain ⟨⟨t571, t572⟩, A70, H⟩ := H
  replace H : (if t572 = 0 then (intrusionlaw09_CaptureRoundTrip.j0 k l0 t571 t572 (decide ((t571.size : Int) < 24))) else (intrusionlaw09_CaptureRoundTrip.j0 k l0 t571 t572 true)) = some r := H
  have A7 := As A70
  clear A70
  have HC8 := As H
  clear H
  go_enter Try.func9, Try.ntmps9
  go_upto_region 6 with (first | ((with_reducible refine gate_callee (f := 11) rfl ?_); refine goesL_ (some 11) rfl rfl Try.func11 (by kernel_rfl) rfl #[] rfl kA ?_; (with_reducible refine (intrusionlaw09_lives.calls k  true _ A2.out).mono ?_); rintro e w9 ⟨rfl, hb⟩; refine ⟨_, rfl, ?_⟩; replace HB := As (below_step (kB HB.out) hb); (try clear hb)) | ((with_reducible refine gate_callee (f := 15) rfl ?_); refine goesL_ (some 14) rfl rfl Try.func15 (by kernel_rfl) rfl #[.slice A0 l0.length c0] rfl kA ?_; (with_reducible refine (intrusionref09_Long.calls k _ _ l0 false _ ?side1 ?side2 A4.out).mono ?_); (case side1 => repeat (first | exact (Kd.C_below HR0.out HB.out) | (with_reducible refine Kd.C_alloc ?_ _) | (with_reducible refine Kd.C_drewN ?_ _) | (with_reducible refine Kd.C_drew ?_))); (case side2 => exact HC0.out); rintro e w' ⟨rfl, ⟨nd, rfl⟩⟩; refine ⟨_, rfl, ?_⟩) | ((with_reducible refine gate_callee (f := 16) rfl ?_); refine goesL_ (some 17) rfl rfl Try.func16 (by kernel_rfl) rfl #[.slice A0 l0.length c0] rfl kA ?_; (with_reducible refine (capture_Write.calls k _ _ l0 t571 t572 _ ?side1 ?side2 A7.out).mono ?_); (case side1 => repeat (first | exact (Kd.C_below HR0.out (kB HB.out)) | (with_reducible refine Kd.C_alloc ?_ _) | (with_reducible refine Kd.C_drewN ?_ _) | (with_reducible refine Kd.C_drew ?_))); (case side2 => exact HC0.out); rintro e w10 ⟨rfl, hb⟩; refine ⟨_, rfl, ?_⟩; replace HB := As (below_step (kB HB.out) hb); (try clear hb)))
  (try simp only [Act.put, sA, sZ, sS])
  go_cut [26] (fun v26 wc => ∃ (kq : Nat) (x26_7 : Bool), v26 = .bool x26_7 ∧ Aside0 (intrusionlaw09_CaptureRoundTrip.j0 kq l0 t571 t572 x26_7 = some r) ∧ Aside0 (kq ≤ k) ∧ Aside0 (Below w.heap.size w wc))
  case first =>
   have H := HC8.out
   clear HC8
   by_cases c11 : t572 = 0
   ·rw [if_pos c11] at H
    have c11b0 : (t572 == 0) = true := beq_iff_eq.mpr c11
    have c11b1 : (t572 != 0) = false := bne_eq_false_iff_eq.mpr c11
    clear c11
    (first | rw [c11b0] | (simp only [i64_w, i32_w]; rw [c11b0]) | skip)
    have H' := As H
    clear H
    go_wp2
    go_meet
    case rel => exact ⟨_, (decide ((t571.size : Int) < 24)), kS, H', ⟨by first | omega | exact Nat.le_refl _⟩, ⟨kB HB.out⟩⟩
   rw [if_neg c11] at H
   have c11b0 : (t572 == 0) = false := beq_eq_false_iff_ne.mpr c11
   have c11b1 : (t572 != 0) = true := bne_iff_ne.mpr c11
   (first | rw [c11b0] | (simp only [i64_w, i32_w]; rw [c11b0]) | skip)
   have H' := As H
   clear H
   go_wp2
   go_meet
   case rel => exact ⟨_, (true), kS, H', ⟨by first | omega | exact Nat.le_refl _⟩, ⟨kB HB.out⟩⟩
  clear HC8
  try clear c3
  try clear c5
  obtain ⟨kq, x26_7, rfl, HA, HJ7, HB⟩ := hcut
  cases kq with
  | zero => exact absurd HA.out (by simp [intrusionlaw09_CaptureRoundTrip.j0])
  | succ kj7 =>
   have H := HA.out
   clear HA
   simp only [intrusionlaw09_CaptureRoundTrip.j0] at H
   by_cases c12 : x26_7 = true
   ·subst c12
    have H1 : (if t572 = 0 then (none) else (some (t571.toList == ([] : List UInt8)))) = some r := by rw [if_pos rfl] at H; exact H
    clear H
    have H := H1
    clear H1
    by_cases c13 : t572 = 0
    ·rw [if_pos c13] at H
     exact absurd H (by simp)
    rw [if_neg c13] at H
    have c13b0 : (t572 == 0) = false := beq_eq_false_iff_ne.mpr c13
    have c13b1 : (t572 != 0) = true := bne_iff_ne.mpr c13
    obtain rfl := Option.some.inj H
    go_wp2
    go_ret
    exact ⟨kE, by exact kB HB.out⟩
   replace c12 := Bool.eq_false_iff.mpr c12
   subst c12
   have H1 : ((capture_Read.f kj7 t571).bind fun bt573 => (if 0 ≤ (wrap64 ((t571.size : Int) - 1)) then (if (wrap64 ((t571.size : Int) - 1)) ≤ (t571.size : Int) then ((capture_Read.f kj7 (t571.extract 0 ((wrap64 ((t571.size : Int) - 1)) : Int).toNat)).bind fun bt578 => ((intrusionref09_Same.f kj7 bt573.1 l0).bind fun t583 => (if t583 = true then (if bt573.2.1 = 0 then (if bt573.2.2 = 0 then (some (bt578.2.1 == 1)) else (none)) else (none)) else (none)))) else (none)) else (none))) = some r := by rw [if_neg (show ¬ (false = true) by decide)] at H; exact H
   clear H
   have H := H1
   clear H1
   replace H := Option.bind_eq_some_iff.mp H
   obtain ⟨⟨t573, t574, t575⟩, A140, H⟩ := H
   replace H : (if 0 ≤ (wrap64 ((t571.size : Int) - 1)) then (if (wrap64 ((t571.size : Int) - 1)) ≤ (t571.size : Int) then ((capture_Read.f kj7 (t571.extract 0 ((wrap64 ((t571.size : Int) - 1)) : Int).toNat)).bind fun bt578 => ((intrusionref09_Same.f kj7 t573 l0).bind fun t583 => (if t583 = true then (if t574 = 0 then (if t575 = 0 then (some (bt578.2.1 == 1)) else (none)) else (none)) else (none)))) else (none)) else (none)) = some r := H
   have A14 := As A140
   clear A140
   obtain ⟨ji15, hji15⟩ : ∃ j_ : Int, (wrap64 ((t571.size : Int) - 1)) = j_ := ⟨_, rfl⟩
   replace H : (if 0 ≤ (ji15) then (if (ji15) ≤ (t571.size : Int) then ((capture_Read.f kj7 (t571.extract 0 ((ji15) : Int).toNat)).bind fun bt578 => ((intrusionref09_Same.f kj7 t573 l0).bind fun t583 => (if t583 = true then (if t574 = 0 then (if t575 = 0 then (some (bt578.2.1 == 1)) else (none)) else (none)) else (none)))) else (none)) else (none)) = some r := by first | (rw [hji15] at H; exact H) | (simp only [hji15] at H ⊢; exact H)
   (try rw [hji15] at A14)
   have hji15w : (IntKind.i64.wrap ((t571.size : Int) - 1)) = ji15 := (i64_w _).trans hji15
   by_cases c16 : 0 ≤ (ji15)
   ·rw [if_pos c16] at H
    have c16b0 := eq_true c16
    have c16b1 : decide (0 ≤ (ji15)) = true := decide_eq_true c16
    clear c16
    by_cases c17 : (ji15) ≤ (t571.size : Int)
    ·rw [if_pos c17] at H
     have c17b0 := eq_true c17
     have c17b1 : decide ((ji15) ≤ (t571.size : Int)) = true := decide_eq_true c17
     clear c17
     replace H := Option.bind_eq_some_iff.mp H
     obtain ⟨⟨t578, t579, t580⟩, A180, H⟩ := H
     replace H : ((intrusionref09_Same.f kj7 t573 l0).bind fun t583 => (if t583 = true then (if t574 = 0 then (if t575 = 0 then (some (t579 == 1)) else (none)) else (none)) else (none))) = some r := H
     have A18 := As A180
     clear A180
     replace H := Option.bind_eq_some_iff.mp H
     obtain ⟨t583, A190, H⟩ := H
     replace H : (if t583 = true then (if t574 = 0 then (if t575 = 0 then (some (t579 == 1)) else (none)) else (none)) else (none)) = some r := H
     have A19 := As A190
     clear A190
     by_cases c20 : t583 = true
     ·subst c20
      have H1 : (if t574 = 0 then (if t575 = 0 then (some (t579 == 1)) else (none)) else (none)) = some r := by rw [if_pos rfl] at H; exact H
      clear H
      have H := H1
      clear H1
      by_cases c21 : t574 = 0
      ·rw [if_pos c21] at H
       have c21b0 : (t574 == 0) = true := beq_iff_eq.mpr c21
       have c21b1 : (t574 != 0) = false := bne_eq_false_iff_eq.mpr c21
       clear c21
       by_cases c22 : t575 = 0
       ·rw [if_pos c22] at H
        have c22b0 : (t575 == 0) = true := beq_iff_eq.mpr c22
        have c22b1 : (t575 != 0) = false := bne_eq_false_iff_eq.mpr c22
        clear c22
        obtain rfl := Option.some.inj H
        go_wp2_with (first | ((with_reducible refine gate_callee (f := 12) rfl ?_); refine goesL_ (some 35) rfl rfl Try.func12 (by kernel_rfl) rfl #[.string t571] rfl kA ?_; (with_reducible refine (capture_Read.calls kj7 t571 t573 t574 t575 _ A14.out).mono ?_); rintro e w23 ⟨v576, rfl, ho0, hb⟩; refine ⟨_, rfl, ?_⟩; have HO577 := As (Kd.R_lower ho0 (below_size (kB HB.out))); replace HB := As (below_step (kB HB.out) hb); (try clear hb); (try clear ho0)) | ((with_reducible refine gate_callee (f := 12) rfl ?_); refine goesL_ (some 45) rfl rfl Try.func12 (by kernel_rfl) rfl #[.string (t571.extract 0 ((ji15) : Int).toNat)] rfl (by (try simp only [List.map_toArray, List.map_cons, List.map_nil]); first | done | (simp only [hji15]; rfl) | rfl | (simp only [List.length_drop, List.length_take]; rfl)) ?_; (with_reducible refine (capture_Read.calls kj7 (t571.extract 0 ((ji15) : Int).toNat) t578 t579 t580 _ A18.out).mono ?_); rintro e w24 ⟨v581, rfl, ho0, hb⟩; refine ⟨_, rfl, ?_⟩; have HO582 := As (Kd.R_lower (Kd.R_new' ho0 (Kd.R_lt (kR HO577.out))) (below_size (kB HB.out))); replace HO577 := As (Kd.R_elder' (kR HO577.out) (Kd.R_base ho0) hb); replace HB := As (below_step (kB HB.out) hb); (try clear hb); (try clear ho0); obtain ⟨Ao25, co25, eo25⟩ := Kd.R_slice HO577.out; subst eo25) | ((with_reducible refine gate_callee (f := 14) rfl ?_); refine goesL_ (some 51) rfl rfl Try.func14 (by kernel_rfl) rfl #[.slice Ao25 t573.length co25, .slice A0 l0.length c0] rfl kA ?_; (with_reducible refine (intrusionref09_Same.calls kj7 _ _ t573 _ _ l0 true _ ?side1 ?side2 ?side3 ?side4 A19.out).mono ?_); (case side1 => repeat (first | exact (Kd.R_reads' HO577.out).2.2 | (with_reducible refine Kd.C_alloc ?_ _) | (with_reducible refine Kd.C_drewN ?_ _) | (with_reducible refine Kd.C_drew ?_))); (case side2 => exact (Kd.R_reads' HO577.out).2.1); (case side3 => repeat (first | exact (Kd.C_below HR0.out HB.out) | (with_reducible refine Kd.C_alloc ?_ _) | (with_reducible refine Kd.C_drewN ?_ _) | (with_reducible refine Kd.C_drew ?_))); (case side4 => exact HC0.out); rintro e w' ⟨rfl, ⟨nd, rfl⟩⟩; refine ⟨_, rfl, ?_⟩))
        go_ret
        exact ⟨by first | rfl | (simp [errW_none, errW_some] <;> rfl) | (simp only [← hji15]; first | rfl | (simp [errW_none, errW_some] <;> rfl)) | (simp [*, errW_none, errW_some] <;> rfl), by exact kB HB.out⟩
       rw [if_neg c22] at H
       exact absurd H (by simp)
      rw [if_neg c21] at H
      exact absurd H (by simp)
     replace c20 := Bool.eq_false_iff.mpr c20
     subst c20
     have H1 : (none) = some r := by rw [if_neg (show ¬ (false = true) by decide)] at H; exact H
     clear H
     have H := H1
     clear H1
     exact absurd H (by simp)
    rw [if_neg c17] at H
    exact absurd H (by simp)
   rw [if_neg c16] at H
   exact absurd H (by simp)
 replace c3 := Bool.eq_false_iff.mpr c3
 subst c3
 have H1 : (none) = some r := by rw [if_neg (show ¬ (false = true) by decide)] at H; exact H
 clear H
 have H := H1
 clear H1
 exact absurd H (by simp)

end Go.Proofs.Ytafjmciojeondaa.X
-- short
