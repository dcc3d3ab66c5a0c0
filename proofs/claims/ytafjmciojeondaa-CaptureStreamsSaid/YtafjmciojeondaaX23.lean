/- Functions and their walks, printed by xprint.py. -/
import Derived.Test.YtafjmciojeondaaX0
import Derived.Test.YtafjmciojeondaaX3
import Derived.Test.YtafjmciojeondaaX4
import Derived.Test.YtafjmciojeondaaX5
import Derived.Test.YtafjmciojeondaaX7
import Derived.Test.YtafjmciojeondaaX8
import Derived.Test.YtafjmciojeondaaX17
namespace Go.Proofs.Ytafjmciojeondaa.X
open Go.RowKit Go.Proofs.YtafjmciojeondaaW.PrintWords Go.Proofs.YtafjmciojeondaaW.PrintLast Go.Proofs.YtafjmciojeondaaW.PrintMore
attribute [local go_sem] max2_int min2_int max_two min_two max_three min_three max_four min_four   -- for this text's walks alone
set_option linter.unusedVariables false
set_option linter.unusedSimpArgs false

/-! ### intrusionlaw09_CaptureStreams: function 8 -/
mutual
def intrusionlaw09_CaptureStreams.j0 : Nat → List ByteArray → Bool → ByteArray → Int → Bool → Bool → Int → Int → Bool → Option (Bool)
 | 0, _, _, _, _, _, _, _, _, _ => none
 | k + 1, x0, x21, x532000, x532001, x532002, x532003, x532004, x532005, x532006 => if x21 = true then (some true) else (intrusionlaw09_CaptureStreams.l0 k x0 (⟨#[]⟩ : ByteArray) ([] : List (S33)) 0 0 x532000 x532001 x532002 x532003 x532004 x532005 x532006)
def intrusionlaw09_CaptureStreams.l0 : Nat → List ByteArray → ByteArray → List (S33) → Int → Int → ByteArray → Int → Bool → Bool → Int → Int → Bool → Option (Bool)
 | 0, _, _, _, _, _, _, _, _, _, _, _, _ => none
 | k + 1, x0, x4, x5, x6, x7, x532000, x532001, x532002, x532003, x532004, x532005, x532006 => if x7 < (x0.length : Int) then (if 0 ≤ x7 then (if x4.size + (rdOf ByteArray.empty x0 x7).size ≤ 9223372036854775807 then ((capture_Reader_Feed.f k x532000 x532001 x532002 x532003 x532004 x532005 x532006 (rdOf ByteArray.empty x0 x7)).bind fun bt535 => (if x6 = 0 then (if x5.length + bt535.1.length < 4398046511104 then (intrusionlaw09_CaptureStreams.l0 k x0 (x4 ++ (rdOf ByteArray.empty x0 x7)) (x5 ++ bt535.1) bt535.2.1 (wrap64 (x7 + 1)) bt535.2.2.1 bt535.2.2.2.1 bt535.2.2.2.2.1 bt535.2.2.2.2.2.1 bt535.2.2.2.2.2.2.1 bt535.2.2.2.2.2.2.2.1 bt535.2.2.2.2.2.2.2.2) else (none)) else (if (bt535.1.length : Int) > 0 then (none) else (if bt535.2.1 = 10 then (intrusionlaw09_CaptureStreams.l0 k x0 (x4 ++ (rdOf ByteArray.empty x0 x7)) x5 x6 (wrap64 (x7 + 1)) bt535.2.2.1 bt535.2.2.2.1 bt535.2.2.2.2.1 bt535.2.2.2.2.2.1 bt535.2.2.2.2.2.2.1 bt535.2.2.2.2.2.2.2.1 bt535.2.2.2.2.2.2.2.2) else (none))))) else (none)) else (none)) else (if x6 = 0 then ((capture_Reader_Close.f x532000 x532001 x532002 x532003 x532004 x532005 x532006).bind fun bt549 => ((capture_Read.f k x4).bind fun bt557 => (if bt549.1 = bt557.2.1 then (if bt557.2.1 = 0 then ((intrusionref09_Same.f k x5 bt557.1).bind fun t562 => (some t562)) else (some true)) else (none)))) else ((capture_Read.f k x4).bind fun bt563 => (if x6 = bt563.2.1 then (if bt563.2.1 = 0 then ((intrusionref09_Same.f k x5 bt563.1).bind fun t568 => (some t568)) else (some true)) else (none))))
end
def intrusionlaw09_CaptureStreams.f (k : Nat) (l0 : List ByteArray) : Option (Bool) := (intrusionlaw09_lives.f k).bind fun t523 => (if t523 = true then ((capture_NewReader.f).bind fun bt524 => ((intrusionlaw09_long.f k l0).bind fun t532 => (if t532 = true then (intrusionlaw09_CaptureStreams.j0 k l0 true bt524.1 bt524.2.1 bt524.2.2.1 bt524.2.2.2.1 bt524.2.2.2.2.1 bt524.2.2.2.2.2.1 bt524.2.2.2.2.2.2) else (intrusionlaw09_CaptureStreams.j0 k l0 false bt524.1 bt524.2.1 bt524.2.2.1 bt524.2.2.2.1 bt524.2.2.2.2.1 bt524.2.2.2.2.2.1 bt524.2.2.2.2.2.2)))) else (none))
theorem intrusionlaw09_CaptureStreams.mono_l : ∀ k, (∀ y0 y1 y2 y3 y4 y5 y6 y7 y8, LeO (intrusionlaw09_CaptureStreams.j0 k y0 y1 y2 y3 y4 y5 y6 y7 y8) (intrusionlaw09_CaptureStreams.j0 (k + 1) y0 y1 y2 y3 y4 y5 y6 y7 y8)) ∧ (∀ y0 y1 y2 y3 y4 y5 y6 y7 y8 y9 y10 y11, LeO (intrusionlaw09_CaptureStreams.l0 k y0 y1 y2 y3 y4 y5 y6 y7 y8 y9 y10 y11) (intrusionlaw09_CaptureStreams.l0 (k + 1) y0 y1 y2 y3 y4 y5 y6 y7 y8 y9 y10 y11))
 | 0 => ⟨fun _ _ _ _ _ _ _ _ _ r h => by simp [intrusionlaw09_CaptureStreams.j0] at h, fun _ _ _ _ _ _ _ _ _ _ _ _ r h => by simp [intrusionlaw09_CaptureStreams.l0] at h⟩
 | k + 1 => by
  obtain ⟨ih0, ih1⟩ := intrusionlaw09_CaptureStreams.mono_l k
  refine ⟨?_, ?_⟩
  ·intro y0 y1 y2 y3 y4 y5 y6 y7 y8
   unfold intrusionlaw09_CaptureStreams.j0
   repeat' first | with_reducible first | apply ih0 | apply ih1 | apply capture_Read.mono | apply capture_Reader_Feed.mono | apply intrusionlaw09_lives.mono | apply intrusionlaw09_long.mono | apply intrusionref09_Same.mono | apply LeO.refl | apply LeO.none | refine LeO.ite ?_ ?_ | refine LeO.bind ?_ (fun _ => ?_)
  intro y0 y1 y2 y3 y4 y5 y6 y7 y8 y9 y10 y11
  unfold intrusionlaw09_CaptureStreams.l0
  repeat' first | with_reducible first | apply ih0 | apply ih1 | apply capture_Read.mono | apply capture_Reader_Feed.mono | apply intrusionlaw09_lives.mono | apply intrusionlaw09_long.mono | apply intrusionref09_Same.mono | apply LeO.refl | apply LeO.none | refine LeO.ite ?_ ?_ | refine LeO.bind ?_ (fun _ => ?_)
theorem intrusionlaw09_CaptureStreams.mono : ∀ a0 k, LeO (intrusionlaw09_CaptureStreams.f k a0) (intrusionlaw09_CaptureStreams.f (k + 1) a0) := by
 intro a0 k
 obtain ⟨ih0, ih1⟩ := intrusionlaw09_CaptureStreams.mono_l k
 unfold intrusionlaw09_CaptureStreams.f
 repeat' first | with_reducible first | apply ih0 | apply ih1 | apply capture_Read.mono | apply capture_Reader_Feed.mono | apply intrusionlaw09_lives.mono | apply intrusionlaw09_long.mono | apply intrusionref09_Same.mono | apply LeO.refl | apply LeO.none | refine LeO.ite ?_ ?_ | refine LeO.bind ?_ (fun _ => ?_)
set_option maxHeartbeats 8000000 in
set_option maxRecDepth 100000 in
theorem intrusionlaw09_CaptureStreams.calls (k : Nat) (A0 : Option Addr) (c0 : Nat) (l0 : List ByteArray) (r : Bool) (w : World) (hr0 : Kd.C Kd.string w A0 l0.length l0) (hc0 : l0.length ≤ c0) (h : intrusionlaw09_CaptureStreams.f k l0 = some r) :
  Calls Try.prog 8 #[.slice A0 l0.length c0] w fun e w' => e = .returned (.bool r) ∧ Below w.heap.size w w' := by
 have HR0 := As hr0
 have HC0 := As hc0
 clear hr0 hc0
 have HB := As (Below.refl w.heap.size w)
 have H : ((intrusionlaw09_lives.f k).bind fun t523 => (if t523 = true then ((capture_NewReader.f).bind fun bt524 => ((intrusionlaw09_long.f k l0).bind fun t532 => (if t532 = true then (intrusionlaw09_CaptureStreams.j0 k l0 true bt524.1 bt524.2.1 bt524.2.2.1 bt524.2.2.2.1 bt524.2.2.2.2.1 bt524.2.2.2.2.2.1 bt524.2.2.2.2.2.2) else (intrusionlaw09_CaptureStreams.j0 k l0 false bt524.1 bt524.2.1 bt524.2.2.1 bt524.2.2.2.1 bt524.2.2.2.2.1 bt524.2.2.2.2.2.1 bt524.2.2.2.2.2.2)))) else (none))) = some r := h
 clear h
 replace H := Option.bind_eq_some_iff.mp H
 obtain ⟨t523, A20, H⟩ := H
 replace H : (if t523 = true then ((capture_NewReader.f).bind fun bt524 => ((intrusionlaw09_long.f k l0).bind fun t532 => (if t532 = true then (intrusionlaw09_CaptureStreams.j0 k l0 true bt524.1 bt524.2.1 bt524.2.2.1 bt524.2.2.2.1 bt524.2.2.2.2.1 bt524.2.2.2.2.2.1 bt524.2.2.2.2.2.2) else (intrusionlaw09_CaptureStreams.j0 k l0 false bt524.1 bt524.2.1 bt524.2.2.1 bt524.2.2.2.1 bt524.2.2.2.2.1 bt524.2.2.2.2.2.1 bt524.2.2.2.2.2.2)))) else (none)) = some r := H
 have A2 := As A20
 clear A20
 by_cases c3 : t523 = true
 ·subst c3
  have H1 : ((capture_NewReader.f).bind fun bt524 => ((intrusionlaw09_long.f k l0).bind fun t532 => (if t532 = true then (intrusionlaw09_CaptureStreams.j0 k l0 true bt524.1 bt524.2.1 bt524.2.2.1 bt524.2.2.2.1 bt524.2.2.2.2.1 bt524.2.2.2.2.2.1 bt524.2.2.2.2.2.2) else (intrusionlaw09_CaptureStreams.j0 k l0 false bt524.1 bt524.2.1 bt524.2.2.1 bt524.2.2.2.1 bt524.2.2.2.2.1 bt524.2.2.2.2.2.1 bt524.2.2.2.2.2.2)))) = some r := by rw [if_pos rfl] at H; exact H
  clear H
  have H := H1
  clear H1
  replace H := Option.bind_eq_some_iff.mp H
  obtain ⟨⟨t524, t525, t526, t527, t528, t529, t530⟩, A40, H⟩ := H
  replace H : ((intrusionlaw09_long.f k l0).bind fun t532 => (if t532 = true then (intrusionlaw09_CaptureStreams.j0 k l0 true t524 t525 t526 t527 t528 t529 t530) else (intrusionlaw09_CaptureStreams.j0 k l0 false t524 t525 t526 t527 t528 t529 t530))) = some r := H
  have A4 := As A40
  clear A40
  have HC5 := As H
  clear H
  go_enter Try.func8, Try.ntmps8
  go_upto_region 4 with (first | ((with_reducible refine gate_callee (f := 11) rfl ?_); refine goesL_ (some 13) rfl rfl Try.func11 (by kernel_rfl) rfl #[] rfl kA ?_; (with_reducible refine (intrusionlaw09_lives.calls k  true _ A2.out).mono ?_); rintro e w6 ⟨rfl, hb⟩; refine ⟨_, rfl, ?_⟩; replace HB := As (below_step (kB HB.out) hb); (try clear hb)) | ((with_reducible refine gate_callee (f := 20) rfl ?_); refine goesL_ (some 15) rfl rfl Try.func20 (by kernel_rfl) rfl #[] rfl kA ?_; (with_reducible refine (capture_NewReader.calls  t524 t525 t526 t527 t528 t529 t530 w _ ?side1 A4.out).mono ?_); (case side1 => exact kB HB.out); rintro e w7 ⟨g531, rfl, hi, hb, hb2⟩; refine ⟨_, rfl, ?_⟩; replace HB := As (hb); have HI531 := As (hi); (try clear hb); (try clear hb2); (try clear hi)))
  (try simp only [Act.put, sA, sZ, sS])
  go_cut [21] (fun v21 wc => ∃ (kq : Nat) (x21_4 : Bool), v21 = .bool x21_4 ∧ Aside0 (intrusionlaw09_CaptureStreams.j0 kq l0 x21_4 t524 t525 t526 t527 t528 t529 t530 = some r) ∧ Aside0 (kq ≤ k) ∧ Aside0 (IsS47 w wc g531 t524 t525 t526 t527 t528 t529 t530) ∧ Aside0 (Below w.heap.size w wc))
  case first =>
   have H := HC5.out
   clear HC5
   replace H := Option.bind_eq_some_iff.mp H
   obtain ⟨t532, A80, H⟩ := H
   replace H : (if t532 = true then (intrusionlaw09_CaptureStreams.j0 k l0 true t524 t525 t526 t527 t528 t529 t530) else (intrusionlaw09_CaptureStreams.j0 k l0 false t524 t525 t526 t527 t528 t529 t530)) = some r := H
   have A8 := As A80
   clear A80
   by_cases c9 : t532 = true
   ·subst c9
    have H1 : (intrusionlaw09_CaptureStreams.j0 k l0 true t524 t525 t526 t527 t528 t529 t530) = some r := by rw [if_pos rfl] at H; exact H
    clear H
    have H := H1
    clear H1
    have H' := As H
    clear H
    go_wp2_with (first | ((with_reducible refine gate_callee (f := 21) rfl ?_); refine goesL_ (some 17) rfl rfl Try.func21 (by kernel_rfl) rfl #[.slice A0 l0.length c0] rfl kA ?_; (with_reducible refine (intrusionlaw09_long.calls k _ _ l0 true _ ?side1 ?side2 A8.out).mono ?_); (case side1 => repeat (first | exact (Kd.C_below HR0.out HB.out) | (with_reducible refine Kd.C_alloc ?_ _) | (with_reducible refine Kd.C_drewN ?_ _) | (with_reducible refine Kd.C_drew ?_))); (case side2 => exact HC0.out); rintro e w' ⟨rfl, ⟨nd, rfl⟩⟩; refine ⟨_, rfl, ?_⟩))
    go_meet
    case rel => exact ⟨_, (true), kS, H', ⟨by first | omega | exact Nat.le_refl _⟩, ⟨by repeat (first | (with_reducible first | exact HI531.out | apply IsS47.alloc | apply IsS47.drewN | apply IsS47.drew | apply IsS47.set_0 | apply IsS47.set_1 | apply IsS47.set_2 | apply IsS47.set_3 | apply IsS47.set_4 | apply IsS47.set_5 | apply IsS47.set_6) | exact HI531.out)⟩, ⟨kB1 HB.out (IsS47.ge HI531.out)⟩⟩
   replace c9 := Bool.eq_false_iff.mpr c9
   subst c9
   have H1 : (intrusionlaw09_CaptureStreams.j0 k l0 false t524 t525 t526 t527 t528 t529 t530) = some r := by rw [if_neg (show ¬ (false = true) by decide)] at H; exact H
   clear H
   have H := H1
   clear H1
   have H' := As H
   clear H
   go_wp2_with (first | ((with_reducible refine gate_callee (f := 21) rfl ?_); refine goesL_ (some 17) rfl rfl Try.func21 (by kernel_rfl) rfl #[.slice A0 l0.length c0] rfl kA ?_; (with_reducible refine (intrusionlaw09_long.calls k _ _ l0 false _ ?side1 ?side2 A8.out).mono ?_); (case side1 => repeat (first | exact (Kd.C_below HR0.out HB.out) | (with_reducible refine Kd.C_alloc ?_ _) | (with_reducible refine Kd.C_drewN ?_ _) | (with_reducible refine Kd.C_drew ?_))); (case side2 => exact HC0.out); rintro e w' ⟨rfl, ⟨nd, rfl⟩⟩; refine ⟨_, rfl, ?_⟩))
   go_meet
   case rel => exact ⟨_, (false), kS, H', ⟨by first | omega | exact Nat.le_refl _⟩, ⟨by repeat (first | (with_reducible first | exact HI531.out | apply IsS47.alloc | apply IsS47.drewN | apply IsS47.drew | apply IsS47.set_0 | apply IsS47.set_1 | apply IsS47.set_2 | apply IsS47.set_3 | apply IsS47.set_4 | apply IsS47.set_5 | apply IsS47.set_6) | exact HI531.out)⟩, ⟨kB1 HB.out (IsS47.ge HI531.out)⟩⟩
  clear HC5
  try clear c3
  obtain ⟨kq, x21_4, rfl, HA, HJ4, HI531, HB⟩ := hcut
  cases kq with
  | zero => exact absurd HA.out (by simp [intrusionlaw09_CaptureStreams.j0])
  | succ kj4 =>
   have H := HA.out
   clear HA
   simp only [intrusionlaw09_CaptureStreams.j0] at H
   by_cases c10 : x21_4 = true
   ·subst c10
    have H1 : (some true) = some r := by rw [if_pos rfl] at H; exact H
    clear H
    have H := H1
    clear H1
    obtain rfl := Option.some.inj H
    go_wp2
    go_ret
    exact ⟨kE, by exact kB1 HB.out (IsS47.ge HI531.out)⟩
   replace c10 := Bool.eq_false_iff.mpr c10
   subst c10
   have H1 : (intrusionlaw09_CaptureStreams.l0 kj4 l0 (⟨#[]⟩ : ByteArray) ([] : List (S33)) 0 0 t524 t525 t526 t527 t528 t529 t530) = some r := by rw [if_neg (show ¬ (false = true) by decide)] at H; exact H
   clear H
   have H := H1
   clear H1
   have H' := As H
   clear H
   go_wp2
   go_loopg [4, 5, 6, 7] kj4 (fun kq v4 v5 v6 v7 w' => ∃ (x4_2 : ByteArray) (x5_2 : List (S33)) (x6_2 : Int) (x7_2 : Int) (x532000_2 : ByteArray) (x532001_2 : Int) (x532002_2 : Bool) (x532003_2 : Bool) (x532004_2 : Int) (x532005_2 : Int) (x532006_2 : Bool), v4 = .string x4_2 ∧ v6 = .int .i64 x6_2 ∧ v7 = .int .i64 x7_2 ∧ Aside0 (intrusionlaw09_CaptureStreams.l0 kq l0 x4_2 x5_2 x6_2 x7_2 x532000_2 x532001_2 x532002_2 x532003_2 x532004_2 x532005_2 x532006_2 = some r) ∧ Aside0 (kq ≤ kj4) ∧ Aside0 (Kd.R k33 33 w' w.heap.size (fun _ => True) v5 x5_2) ∧ Aside0 (IsS47 w w' g531 x532000_2 x532001_2 x532002_2 x532003_2 x532004_2 x532005_2 x532006_2) ∧ Aside0 (Below w.heap.size w w'))
   case atStart => exact ⟨((⟨#[]⟩ : ByteArray)), (([] : List (S33))), (0), (0), (t524), (t525), (t526), (t527), (t528), (t529), (t530), kS, kS, kS, H', ⟨Nat.le_refl _⟩, ⟨by first | exact Kd.R_nil _ _ _ _ _ | exact Kd.N_nil _ _ _ _ _ | exact Kd.V_nil _ _ _ _ _ | exact Kd.Q_nil _ _ _ _ _ | exact Kd.S_nil _ _ _ _ _⟩, ⟨by repeat (first | (with_reducible first | exact HI531.out | apply IsS47.alloc | apply IsS47.drewN | apply IsS47.drew | apply IsS47.set_0 | apply IsS47.set_1 | apply IsS47.set_2 | apply IsS47.set_3 | apply IsS47.set_4 | apply IsS47.set_5 | apply IsS47.set_6) | exact HI531.out)⟩, ⟨kB1 HB.out (IsS47.ge HI531.out)⟩⟩
   clear H'
   try clear c10
   obtain ⟨x4_2, x5_2, x6_2, x7_2, x532000_2, x532001_2, x532002_2, x532003_2, x532004_2, x532005_2, x532006_2, rfl, rfl, rfl, HA, HK2, HO_5, HI531, HB⟩ := hrel
   cases gk with
   | zero => exact absurd HA.out (by simp [intrusionlaw09_CaptureStreams.l0])
   | succ k2 =>
    have H := HA.out
    clear HA
    simp only [intrusionlaw09_CaptureStreams.l0] at H
    by_cases c11 : x7_2 < (l0.length : Int)
    ·rw [if_pos c11] at H
     have c11b0 : decide (x7_2 < (l0.length : Int)) = true := decide_eq_true c11
     clear c11
     by_cases c12 : 0 ≤ x7_2
     ·rw [if_pos c12] at H
      have c12b0 : decide (0 ≤ x7_2) = true := decide_eq_true c12
      clear c12
      by_cases c13 : x4_2.size + (rdOf ByteArray.empty l0 x7_2).size ≤ 9223372036854775807
      ·rw [if_pos c13] at H
       have c13b0 := eq_true c13
       have c13b1 : decide (x4_2.size + (rdOf ByteArray.empty l0 x7_2).size ≤ 9223372036854775807) = true := decide_eq_true c13
       try have c13b2 : (9223372036854775807 < x4_2.size + (rdOf ByteArray.empty l0 x7_2).size) = False := eq_false (Nat.not_lt.2 c13)
       replace H := Option.bind_eq_some_iff.mp H
       obtain ⟨⟨t535, t538, t539, t540, t541, t542, t543, t544, t545⟩, A140, H⟩ := H
       replace H : (if x6_2 = 0 then (if x5_2.length + t535.length < 4398046511104 then (intrusionlaw09_CaptureStreams.l0 k2 l0 (x4_2 ++ (rdOf ByteArray.empty l0 x7_2)) (x5_2 ++ t535) t538 (wrap64 (x7_2 + 1)) t539 t540 t541 t542 t543 t544 t545) else (none)) else (if (t535.length : Int) > 0 then (none) else (if t538 = 10 then (intrusionlaw09_CaptureStreams.l0 k2 l0 (x4_2 ++ (rdOf ByteArray.empty l0 x7_2)) x5_2 x6_2 (wrap64 (x7_2 + 1)) t539 t540 t541 t542 t543 t544 t545) else (none)))) = some r := H
       have A14 := As A140
       clear A140
       by_cases c15 : x6_2 = 0
       ·rw [if_pos c15] at H
        have c15b0 : (x6_2 == 0) = true := beq_iff_eq.mpr c15
        have c15b1 : (x6_2 != 0) = false := bne_eq_false_iff_eq.mpr c15
        clear c15
        by_cases c16 : x5_2.length + t535.length < 4398046511104
        ·rw [if_pos c16] at H
         have LMc16 := As c16
         clear c16
         obtain ⟨y546, hy546⟩ : ∃ y_ : List (S33), y_ = (x5_2 ++ t535) := ⟨_, rfl⟩
         replace H : (intrusionlaw09_CaptureStreams.l0 k2 l0 (x4_2 ++ (rdOf ByteArray.empty l0 x7_2)) y546 t538 (wrap64 (x7_2 + 1)) t539 t540 t541 t542 t543 t544 t545) = some r := by first | (rw [hy546]; with_reducible exact H) | (have H2_ := (Option.bind_some _ _).symm.trans H; rw [hy546]; with_reducible exact H2_) | (have H2_ := (Option.bind_some _ _).symm.trans H; with_reducible exact H2_) | with_reducible exact H | (rw [hy546]; exact H) | exact H
         have Ny546 := As hy546
         clear hy546
         have H' := As H
         clear H
         have p533 : 0 ≤ (x7_2 : Int) := of_decide_eq_true (by first | (with_reducible assumption) | assumption)
         have q533 : x7_2 < (l0.length : Int) := of_decide_eq_true (by first | (with_reducible assumption) | assumption)
         obtain ⟨ad533, e533, hx533_0⟩ := Kd.at_string HR0.out x7_2 p533 q533
         cases e533
         replace hx533_0 := hcell HB.out hx533_0
         replace p533 := eq_true p533
         replace q533 := eq_true q533
         have p534 : 0 ≤ (x7_2 : Int) := of_decide_eq_true (by first | (with_reducible assumption) | assumption)
         have q534 : x7_2 < (l0.length : Int) := of_decide_eq_true (by first | (with_reducible assumption) | assumption)
         obtain ⟨ad534, e534, hx534_0⟩ := Kd.at_string HR0.out x7_2 p534 q534
         obtain rfl : ad533 = ad534 := (by injection e534)
         replace hx534_0 := hcell HB.out hx534_0
         replace p534 := eq_true p534
         replace q534 := eq_true q534
         go_wp2_with (first | ((with_reducible refine gate_callee (f := 22) rfl ?_); refine goesL_ (some 42) rfl rfl Try.func22 (by kernel_rfl) rfl #[.pointer (some ⟨g531, 0, none⟩), .string (rdOf ByteArray.empty l0 x7_2)] rfl kA ?_; (with_reducible refine (capture_Reader_Feed.calls k2 g531 x532000_2 x532001_2 x532002_2 x532003_2 x532004_2 x532005_2 x532006_2 (rdOf ByteArray.empty l0 x7_2) t535 t538 t539 t540 t541 t542 t543 t544 t545 w _ ?side1 ?side2 A14.out).mono ?_); (case side1 => repeat (first | (with_reducible first | exact HI531.out | apply IsS47.alloc | apply IsS47.drewN | apply IsS47.drew | apply IsS47.set_0 | apply IsS47.set_1 | apply IsS47.set_2 | apply IsS47.set_3 | apply IsS47.set_4 | apply IsS47.set_5 | apply IsS47.set_6) | exact HI531.out)); (case side2 => exact kB1 HB.out (IsS47.ge HI531.out)); rintro e w17 ⟨v536, rfl, ho0, hi, hb, hk⟩; refine ⟨_, rfl, ?_⟩; have HO537 := As (Kd.R_lower (Kd.R_new' ho0 (Kd.R_lt (kR HO_5.out))) (below_size (kB1 HB.out (IsS47.ge HI531.out)))); replace HO_5 := As (Kd.R_mono (Kd.R_told (Kd.R_oldK (IsS47.apart (show IsS47 w _ g531 x532000_2 x532001_2 x532002_2 x532003_2 x532004_2 x532005_2 x532006_2 from by repeat (first | (with_reducible first | exact HI531.out | apply IsS47.alloc | apply IsS47.drewN | apply IsS47.drew | apply IsS47.set_0 | apply IsS47.set_1 | apply IsS47.set_2 | apply IsS47.set_3 | apply IsS47.set_4 | apply IsS47.set_5 | apply IsS47.set_6) | exact HI531.out)) (kR HO_5.out) (by decide)) hk) (Kd.R_base ho0)) (fun _ h_ => h_.1)); replace HB := As (hb); replace HI531 := As (hi); (try clear hb); (try clear hk); (try clear hi); (try clear ho0); obtain ⟨Ao19, co19, eo19⟩ := Kd.R_slice HO537.out; subst eo19) | ((with_reducible refine gate_builtin (b := .append) (xs := #[.tmp 54, .tmp 55]) rfl ?_); at_builtin; refine Kd.R_append_rows k33 (w0 := w) w.heap.size rfl (.tmp 54) (.tmp 55) 23 33 (.agg #[(.int .i64 0), (.int .i64 0), (.string ⟨#[]⟩)]) 32 rfl Try.underlying23 info33 rfl (by decide) (by omega) u5 x5_2 t535 _ _ _ (fun k_ => some k_ ≠ (.slice Ao19 t535.length co19 : Value).ownBlock) (fun _ => False) rfl rfl ?aO ?aR (fun _ _ h => h) (fun _ h => h.elim) ?aF ?aB ?aS ?aL ?_; (case aR => repeat (first | exact (Kd.R_reads' HO537.out).2.2 | (with_reducible refine Kd.C_alloc ?_ _) | (with_reducible refine Kd.C_drewN ?_ _) | (with_reducible refine Kd.C_drew ?_))); (case aB => exact (kB1 HB.out (IsS47.ge HI531.out))); (case aF => exact (fun k_ hk => Kd.fresh' (Kd.R_lt (kR HO537.out)) k_ hk)); (case aO => exact (by (with_reducible repeat (first | apply Kd.R_alloc | apply Kd.R_drewN | apply Kd.R_drew)); exact Kd.R_mono HO_5.out (fun _ hk => hk.2))); (case aS => exact (below_size (kB1 HB.out (IsS47.ge HI531.out)))); (case aL => have := LMc16.out; omega); intro v547 w18 ho hb hg hat; rw [← Ny546.out] at ho; replace HI531 := As (IsS47.grown (show IsS47 w _ g531 t539 t540 t541 t542 t543 t544 t545 from by repeat (first | (with_reducible first | exact HI531.out | apply IsS47.alloc | apply IsS47.drewN | apply IsS47.drew | apply IsS47.set_0 | apply IsS47.set_1 | apply IsS47.set_2 | apply IsS47.set_3 | apply IsS47.set_4 | apply IsS47.set_5 | apply IsS47.set_6) | exact HI531.out)) hg (IsS47.own_ne HI531.out HO_5.out (by decide))); replace HO537 := As (Kd.R_after (ok := (fun _ => True)) (kR HO537.out) hg hat); replace HB := As (hb); have HO548 := As (ho); clear HO_5; clear ho hb hg hat))
         go_roundg k2
         case measure => have := HJ4.out; have := HK2.out; omega
         case rel => exact ⟨(x4_2 ++ (rdOf ByteArray.empty l0 x7_2)), (y546), (t538), (wrap64 (x7_2 + 1)), (t539), (t540), (t541), (t542), (t543), (t544), (t545), kS, kS, kS, H', ⟨by have := HJ4.out; have := HK2.out; omega⟩, ⟨by (with_reducible repeat (first | apply Kd.R_alloc | apply Kd.R_drewN | apply Kd.R_drew)); exact Kd.R_mono HO548.out (fun _ hk => trivial)⟩, ⟨by repeat (first | (with_reducible first | exact HI531.out | apply IsS47.alloc | apply IsS47.drewN | apply IsS47.drew | apply IsS47.set_0 | apply IsS47.set_1 | apply IsS47.set_2 | apply IsS47.set_3 | apply IsS47.set_4 | apply IsS47.set_5 | apply IsS47.set_6) | exact HI531.out)⟩, ⟨kB1 HB.out (IsS47.ge HI531.out)⟩⟩
        rw [if_neg c16] at H
        exact absurd H (by simp)
       rw [if_neg c15] at H
       have c15b0 : (x6_2 == 0) = false := beq_eq_false_iff_ne.mpr c15
       have c15b1 : (x6_2 != 0) = true := bne_iff_ne.mpr c15
       by_cases c20 : (t535.length : Int) > 0
       ·rw [if_pos c20] at H
        exact absurd H (by simp)
       rw [if_neg c20] at H
       have c20b0 : decide (0 < (t535.length : Int)) = false := decide_eq_false c20
       have c20b1 : decide (0 < t535.length) = false := decide_eq_false (by omega)
       clear c20
       by_cases c21 : t538 = 10
       ·rw [if_pos c21] at H
        have c21b0 : (t538 == 10) = true := beq_iff_eq.mpr c21
        have c21b1 : (t538 != 10) = false := bne_eq_false_iff_eq.mpr c21
        clear c21
        have H' := As H
        clear H
        have p533 : 0 ≤ (x7_2 : Int) := of_decide_eq_true (by first | (with_reducible assumption) | assumption)
        have q533 : x7_2 < (l0.length : Int) := of_decide_eq_true (by first | (with_reducible assumption) | assumption)
        obtain ⟨ad533, e533, hx533_0⟩ := Kd.at_string HR0.out x7_2 p533 q533
        cases e533
        replace hx533_0 := hcell HB.out hx533_0
        replace p533 := eq_true p533
        replace q533 := eq_true q533
        have p534 : 0 ≤ (x7_2 : Int) := of_decide_eq_true (by first | (with_reducible assumption) | assumption)
        have q534 : x7_2 < (l0.length : Int) := of_decide_eq_true (by first | (with_reducible assumption) | assumption)
        obtain ⟨ad534, e534, hx534_0⟩ := Kd.at_string HR0.out x7_2 p534 q534
        obtain rfl : ad533 = ad534 := (by injection e534)
        replace hx534_0 := hcell HB.out hx534_0
        replace p534 := eq_true p534
        replace q534 := eq_true q534
        go_wp2_with (first | ((with_reducible refine gate_callee (f := 22) rfl ?_); refine goesL_ (some 42) rfl rfl Try.func22 (by kernel_rfl) rfl #[.pointer (some ⟨g531, 0, none⟩), .string (rdOf ByteArray.empty l0 x7_2)] rfl kA ?_; (with_reducible refine (capture_Reader_Feed.calls k2 g531 x532000_2 x532001_2 x532002_2 x532003_2 x532004_2 x532005_2 x532006_2 (rdOf ByteArray.empty l0 x7_2) t535 t538 t539 t540 t541 t542 t543 t544 t545 w _ ?side1 ?side2 A14.out).mono ?_); (case side1 => repeat (first | (with_reducible first | exact HI531.out | apply IsS47.alloc | apply IsS47.drewN | apply IsS47.drew | apply IsS47.set_0 | apply IsS47.set_1 | apply IsS47.set_2 | apply IsS47.set_3 | apply IsS47.set_4 | apply IsS47.set_5 | apply IsS47.set_6) | exact HI531.out)); (case side2 => exact kB1 HB.out (IsS47.ge HI531.out)); rintro e w22 ⟨v536, rfl, ho0, hi, hb, hk⟩; refine ⟨_, rfl, ?_⟩; have HO537 := As (Kd.R_lower (Kd.R_new' ho0 (Kd.R_lt (kR HO_5.out))) (below_size (kB1 HB.out (IsS47.ge HI531.out)))); replace HO_5 := As (Kd.R_mono (Kd.R_told (Kd.R_oldK (IsS47.apart (show IsS47 w _ g531 x532000_2 x532001_2 x532002_2 x532003_2 x532004_2 x532005_2 x532006_2 from by repeat (first | (with_reducible first | exact HI531.out | apply IsS47.alloc | apply IsS47.drewN | apply IsS47.drew | apply IsS47.set_0 | apply IsS47.set_1 | apply IsS47.set_2 | apply IsS47.set_3 | apply IsS47.set_4 | apply IsS47.set_5 | apply IsS47.set_6) | exact HI531.out)) (kR HO_5.out) (by decide)) hk) (Kd.R_base ho0)) (fun _ h_ => h_.1)); replace HB := As (hb); replace HI531 := As (hi); (try clear hb); (try clear hk); (try clear hi); (try clear ho0); obtain ⟨Ao23, co23, eo23⟩ := Kd.R_slice HO537.out; subst eo23))
        go_roundg k2
        case measure => have := HJ4.out; have := HK2.out; omega
        case rel => exact ⟨(x4_2 ++ (rdOf ByteArray.empty l0 x7_2)), (x5_2), (x6_2), (wrap64 (x7_2 + 1)), (t539), (t540), (t541), (t542), (t543), (t544), (t545), kS, kS, kS, H', ⟨by have := HJ4.out; have := HK2.out; omega⟩, ⟨by (with_reducible repeat (first | apply Kd.R_alloc | apply Kd.R_drewN | apply Kd.R_drew)); exact Kd.R_mono HO_5.out (fun _ hk => trivial)⟩, ⟨by repeat (first | (with_reducible first | exact HI531.out | apply IsS47.alloc | apply IsS47.drewN | apply IsS47.drew | apply IsS47.set_0 | apply IsS47.set_1 | apply IsS47.set_2 | apply IsS47.set_3 | apply IsS47.set_4 | apply IsS47.set_5 | apply IsS47.set_6) | exact HI531.out)⟩, ⟨kB1 HB.out (IsS47.ge HI531.out)⟩⟩
       rw [if_neg c21] at H
       exact absurd H (by simp)
      rw [if_neg c13] at H
      exact absurd H (by simp)
     rw [if_neg c12] at H
     exact absurd H (by simp)
    rw [if_neg c11] at H
    have c11b0 : decide (x7_2 < (l0.length : Int)) = false := decide_eq_false c11
    clear c11
    by_cases c24 : x6_2 = 0
    ·rw [if_pos c24] at H
     have c24b0 : (x6_2 == 0) = true := beq_iff_eq.mpr c24
     have c24b1 : (x6_2 != 0) = false := bne_eq_false_iff_eq.mpr c24
     clear c24
     replace H := Option.bind_eq_some_iff.mp H
     obtain ⟨⟨t549, t550, t551, t552, t553, t554, t555, t556⟩, A250, H⟩ := H
     replace H : ((capture_Read.f k2 x4_2).bind fun bt557 => (if t549 = bt557.2.1 then (if bt557.2.1 = 0 then ((intrusionref09_Same.f k2 x5_2 bt557.1).bind fun t562 => (some t562)) else (some true)) else (none))) = some r := H
     have A25 := As A250
     clear A250
     replace H := Option.bind_eq_some_iff.mp H
     obtain ⟨⟨t557, t558, t559⟩, A260, H⟩ := H
     replace H : (if t549 = t558 then (if t558 = 0 then ((intrusionref09_Same.f k2 x5_2 t557).bind fun t562 => (some t562)) else (some true)) else (none)) = some r := H
     have A26 := As A260
     clear A260
     by_cases c27 : t549 = t558
     ·rw [if_pos c27] at H
      have c27b0 : (t549 == t558) = true := beq_iff_eq.mpr c27
      have c27b1 : (t549 != t558) = false := bne_eq_false_iff_eq.mpr c27
      clear c27
      by_cases c28 : t558 = 0
      ·rw [if_pos c28] at H
       have c28b0 : (t558 == 0) = true := beq_iff_eq.mpr c28
       have c28b1 : (t558 != 0) = false := bne_eq_false_iff_eq.mpr c28
       clear c28
       replace H := Option.bind_eq_some_iff.mp H
       obtain ⟨t562, A290, H⟩ := H
       replace H : (some t562) = some r := H
       have A29 := As A290
       clear A290
       obtain rfl := Option.some.inj H
       go_wp2_with (first | ((with_reducible refine gate_callee (f := 24) rfl ?_); refine goesL_ (some 61) rfl rfl Try.func24 (by kernel_rfl) rfl #[.pointer (some ⟨g531, 0, none⟩)] rfl kA ?_; (with_reducible refine (capture_Reader_Close.calls g531 x532000_2 x532001_2 x532002_2 x532003_2 x532004_2 x532005_2 x532006_2 t549 t550 t551 t552 t553 t554 t555 t556 w _ ?side1 ?side2 A25.out).mono ?_); (case side1 => repeat (first | (with_reducible first | exact HI531.out | apply IsS47.alloc | apply IsS47.drewN | apply IsS47.drew | apply IsS47.set_0 | apply IsS47.set_1 | apply IsS47.set_2 | apply IsS47.set_3 | apply IsS47.set_4 | apply IsS47.set_5 | apply IsS47.set_6) | exact HI531.out)); (case side2 => exact kB1 HB.out (IsS47.ge HI531.out)); rintro e w30 ⟨rfl, hi, hb, hk⟩; refine ⟨_, rfl, ?_⟩; replace HO_5 := As (Kd.R_mono (Kd.R_keep (IsS47.apart (show IsS47 w _ g531 x532000_2 x532001_2 x532002_2 x532003_2 x532004_2 x532005_2 x532006_2 from by repeat (first | (with_reducible first | exact HI531.out | apply IsS47.alloc | apply IsS47.drewN | apply IsS47.drew | apply IsS47.set_0 | apply IsS47.set_1 | apply IsS47.set_2 | apply IsS47.set_3 | apply IsS47.set_4 | apply IsS47.set_5 | apply IsS47.set_6) | exact HI531.out)) (kR HO_5.out) (by decide)) hk (fun _ h => h.2)) (fun _ h => h.1)); replace HB := As (hb); replace HI531 := As (hi); (try clear hb); (try clear hk); (try clear hi)) | ((with_reducible refine gate_callee (f := 12) rfl ?_); refine goesL_ (some 64) rfl rfl Try.func12 (by kernel_rfl) rfl #[.string x4_2] rfl kA ?_; (with_reducible refine (capture_Read.calls k2 x4_2 t557 t558 t559 _ A26.out).mono ?_); rintro e w31 ⟨v560, rfl, ho0, hb⟩; refine ⟨_, rfl, ?_⟩; have HO561 := As (Kd.R_lower (Kd.R_new' ho0 (Kd.R_lt (kR HO_5.out))) (below_size (kB1 HB.out (IsS47.ge HI531.out)))); replace HO_5 := As (Kd.R_elder' (kR HO_5.out) (Kd.R_base ho0) hb); replace HB := As (below_step (kB1 HB.out (IsS47.ge HI531.out)) hb); replace HI531 := As (IsS47.below (by repeat (first | (with_reducible first | exact HI531.out | apply IsS47.alloc | apply IsS47.drewN | apply IsS47.drew | apply IsS47.set_0 | apply IsS47.set_1 | apply IsS47.set_2 | apply IsS47.set_3 | apply IsS47.set_4 | apply IsS47.set_5 | apply IsS47.set_6) | exact HI531.out)) hb); (try clear hb); (try clear ho0); obtain ⟨Ao32, co32, eo32⟩ := Kd.R_slice HO_5.out; subst eo32; obtain ⟨Ao33, co33, eo33⟩ := Kd.R_slice HO561.out; subst eo33) | (go_at_call 14; (with_reducible refine (intrusionref09_Same.calls k2 _ _ x5_2 _ _ t557 t562 _ ?side1 ?side2 ?side3 ?side4 A29.out).mono ?_); (case side1 => repeat (first | exact (Kd.R_reads' HO_5.out).2.2 | (with_reducible refine Kd.C_alloc ?_ _) | (with_reducible refine Kd.C_drewN ?_ _) | (with_reducible refine Kd.C_drew ?_))); (case side2 => exact (Kd.R_reads' HO_5.out).2.1); (case side3 => repeat (first | exact (Kd.R_reads' HO561.out).2.2 | (with_reducible refine Kd.C_alloc ?_ _) | (with_reducible refine Kd.C_drewN ?_ _) | (with_reducible refine Kd.C_drew ?_))); (case side4 => exact (Kd.R_reads' HO561.out).2.1); rintro e w' ⟨rfl, ⟨nd, rfl⟩⟩))
       go_ret
       exact ⟨kE, by exact kB1 HB.out (IsS47.ge HI531.out)⟩
      rw [if_neg c28] at H
      have c28b0 : (t558 == 0) = false := beq_eq_false_iff_ne.mpr c28
      have c28b1 : (t558 != 0) = true := bne_iff_ne.mpr c28
      obtain rfl := Option.some.inj H
      go_wp2_with (first | ((with_reducible refine gate_callee (f := 24) rfl ?_); refine goesL_ (some 61) rfl rfl Try.func24 (by kernel_rfl) rfl #[.pointer (some ⟨g531, 0, none⟩)] rfl kA ?_; (with_reducible refine (capture_Reader_Close.calls g531 x532000_2 x532001_2 x532002_2 x532003_2 x532004_2 x532005_2 x532006_2 t549 t550 t551 t552 t553 t554 t555 t556 w _ ?side1 ?side2 A25.out).mono ?_); (case side1 => repeat (first | (with_reducible first | exact HI531.out | apply IsS47.alloc | apply IsS47.drewN | apply IsS47.drew | apply IsS47.set_0 | apply IsS47.set_1 | apply IsS47.set_2 | apply IsS47.set_3 | apply IsS47.set_4 | apply IsS47.set_5 | apply IsS47.set_6) | exact HI531.out)); (case side2 => exact kB1 HB.out (IsS47.ge HI531.out)); rintro e w34 ⟨rfl, hi, hb, hk⟩; refine ⟨_, rfl, ?_⟩; replace HO_5 := As (Kd.R_mono (Kd.R_keep (IsS47.apart (show IsS47 w _ g531 x532000_2 x532001_2 x532002_2 x532003_2 x532004_2 x532005_2 x532006_2 from by repeat (first | (with_reducible first | exact HI531.out | apply IsS47.alloc | apply IsS47.drewN | apply IsS47.drew | apply IsS47.set_0 | apply IsS47.set_1 | apply IsS47.set_2 | apply IsS47.set_3 | apply IsS47.set_4 | apply IsS47.set_5 | apply IsS47.set_6) | exact HI531.out)) (kR HO_5.out) (by decide)) hk (fun _ h => h.2)) (fun _ h => h.1)); replace HB := As (hb); replace HI531 := As (hi); (try clear hb); (try clear hk); (try clear hi)) | ((with_reducible refine gate_callee (f := 12) rfl ?_); refine goesL_ (some 64) rfl rfl Try.func12 (by kernel_rfl) rfl #[.string x4_2] rfl kA ?_; (with_reducible refine (capture_Read.calls k2 x4_2 t557 t558 t559 _ A26.out).mono ?_); rintro e w35 ⟨v560, rfl, ho0, hb⟩; refine ⟨_, rfl, ?_⟩; have HO561 := As (Kd.R_lower (Kd.R_new' ho0 (Kd.R_lt (kR HO_5.out))) (below_size (kB1 HB.out (IsS47.ge HI531.out)))); replace HO_5 := As (Kd.R_elder' (kR HO_5.out) (Kd.R_base ho0) hb); replace HB := As (below_step (kB1 HB.out (IsS47.ge HI531.out)) hb); replace HI531 := As (IsS47.below (by repeat (first | (with_reducible first | exact HI531.out | apply IsS47.alloc | apply IsS47.drewN | apply IsS47.drew | apply IsS47.set_0 | apply IsS47.set_1 | apply IsS47.set_2 | apply IsS47.set_3 | apply IsS47.set_4 | apply IsS47.set_5 | apply IsS47.set_6) | exact HI531.out)) hb); (try clear hb); (try clear ho0)))
      go_ret
      exact ⟨kE, by exact kB1 HB.out (IsS47.ge HI531.out)⟩
     rw [if_neg c27] at H
     exact absurd H (by simp)
    rw [if_neg c24] at H
    have c24b0 : (x6_2 == 0) = false := beq_eq_false_iff_ne.mpr c24
    have c24b1 : (x6_2 != 0) = true := bne_iff_ne.mpr c24
    replace H := Option.bind_eq_some_iff.mp H
    obtain ⟨⟨t563, t564, t565⟩, A360, H⟩ := H
    replace H : (if x6_2 = t564 then (if t564 = 0 then ((intrusionref09_Same.f k2 x5_2 t563).bind fun t568 => (some t568)) else (some true)) else (none)) = some r := H
    have A36 := As A360
    clear A360
    by_cases c37 : x6_2 = t564
    ·rw [if_pos c37] at H
     have c37b0 : (x6_2 == t564) = true := beq_iff_eq.mpr c37
     have c37b1 : (x6_2 != t564) = false := bne_eq_false_iff_eq.mpr c37
     clear c37
     by_cases c38 : t564 = 0
     ·rw [if_pos c38] at H
      have c38b0 : (t564 == 0) = true := beq_iff_eq.mpr c38
      have c38b1 : (t564 != 0) = false := bne_eq_false_iff_eq.mpr c38
      clear c38
      replace H := Option.bind_eq_some_iff.mp H
      obtain ⟨t568, A390, H⟩ := H
      replace H : (some t568) = some r := H
      have A39 := As A390
      clear A390
      obtain rfl := Option.some.inj H
      go_wp2_with (first | ((with_reducible refine gate_callee (f := 12) rfl ?_); refine goesL_ (some 64) rfl rfl Try.func12 (by kernel_rfl) rfl #[.string x4_2] rfl kA ?_; (with_reducible refine (capture_Read.calls k2 x4_2 t563 t564 t565 _ A36.out).mono ?_); rintro e w40 ⟨v566, rfl, ho0, hb⟩; refine ⟨_, rfl, ?_⟩; have HO567 := As (Kd.R_lower (Kd.R_new' ho0 (Kd.R_lt (kR HO_5.out))) (below_size (kB1 HB.out (IsS47.ge HI531.out)))); replace HO_5 := As (Kd.R_elder' (kR HO_5.out) (Kd.R_base ho0) hb); replace HB := As (below_step (kB1 HB.out (IsS47.ge HI531.out)) hb); replace HI531 := As (IsS47.below (by repeat (first | (with_reducible first | exact HI531.out | apply IsS47.alloc | apply IsS47.drewN | apply IsS47.drew | apply IsS47.set_0 | apply IsS47.set_1 | apply IsS47.set_2 | apply IsS47.set_3 | apply IsS47.set_4 | apply IsS47.set_5 | apply IsS47.set_6) | exact HI531.out)) hb); (try clear hb); (try clear ho0); obtain ⟨Ao41, co41, eo41⟩ := Kd.R_slice HO_5.out; subst eo41; obtain ⟨Ao42, co42, eo42⟩ := Kd.R_slice HO567.out; subst eo42) | (go_at_call 14; (with_reducible refine (intrusionref09_Same.calls k2 _ _ x5_2 _ _ t563 t568 _ ?side1 ?side2 ?side3 ?side4 A39.out).mono ?_); (case side1 => repeat (first | exact (Kd.R_reads' HO_5.out).2.2 | (with_reducible refine Kd.C_alloc ?_ _) | (with_reducible refine Kd.C_drewN ?_ _) | (with_reducible refine Kd.C_drew ?_))); (case side2 => exact (Kd.R_reads' HO_5.out).2.1); (case side3 => repeat (first | exact (Kd.R_reads' HO567.out).2.2 | (with_reducible refine Kd.C_alloc ?_ _) | (with_reducible refine Kd.C_drewN ?_ _) | (with_reducible refine Kd.C_drew ?_))); (case side4 => exact (Kd.R_reads' HO567.out).2.1); rintro e w' ⟨rfl, ⟨nd, rfl⟩⟩))
      go_ret
      exact ⟨kE, by exact kB1 HB.out (IsS47.ge HI531.out)⟩
     rw [if_neg c38] at H
     have c38b0 : (t564 == 0) = false := beq_eq_false_iff_ne.mpr c38
     have c38b1 : (t564 != 0) = true := bne_iff_ne.mpr c38
     obtain rfl := Option.some.inj H
     go_wp2_with (first | ((with_reducible refine gate_callee (f := 12) rfl ?_); refine goesL_ (some 64) rfl rfl Try.func12 (by kernel_rfl) rfl #[.string x4_2] rfl kA ?_; (with_reducible refine (capture_Read.calls k2 x4_2 t563 t564 t565 _ A36.out).mono ?_); rintro e w43 ⟨v566, rfl, ho0, hb⟩; refine ⟨_, rfl, ?_⟩; have HO567 := As (Kd.R_lower (Kd.R_new' ho0 (Kd.R_lt (kR HO_5.out))) (below_size (kB1 HB.out (IsS47.ge HI531.out)))); replace HO_5 := As (Kd.R_elder' (kR HO_5.out) (Kd.R_base ho0) hb); replace HB := As (below_step (kB1 HB.out (IsS47.ge HI531.out)) hb); replace HI531 := As (IsS47.below (by repeat (first | (with_reducible first | exact HI531.out | apply IsS47.alloc | apply IsS47.drewN | apply IsS47.drew | apply IsS47.set_0 | apply IsS47.set_1 | apply IsS47.set_2 | apply IsS47.set_3 | apply IsS47.set_4 | apply IsS47.set_5 | apply IsS47.set_6) | exact HI531.out)) hb); (try clear hb); (try clear ho0)))
     go_ret
     exact ⟨kE, by exact kB1 HB.out (IsS47.ge HI531.out)⟩
    rw [if_neg c37] at H
    exact absurd H (by simp)
 replace c3 := Bool.eq_false_iff.mpr c3
 subst c3
 have H1 : (none) = some r := by rw [if_neg (show ¬ (false = true) by decide)] at H; exact H
 clear H
 have H := H1
 clear H1
 exact absurd H (by simp)

end Go.Proofs.Ytafjmciojeondaa.X
-- short
