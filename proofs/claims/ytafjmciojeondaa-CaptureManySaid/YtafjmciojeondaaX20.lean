/- Functions and their walks, printed by xprint.py. -/
import Derived.Test.YtafjmciojeondaaX0
import Derived.Test.YtafjmciojeondaaX5
import Derived.Test.YtafjmciojeondaaX6
import Derived.Test.YtafjmciojeondaaX7
import Derived.Test.YtafjmciojeondaaX16
namespace Go.Proofs.Ytafjmciojeondaa.X
open Go.RowKit Go.Proofs.YtafjmciojeondaaW.PrintWords Go.Proofs.YtafjmciojeondaaW.PrintLast Go.Proofs.YtafjmciojeondaaW.PrintMore
attribute [local go_sem] max2_int min2_int max_two min_two max_three min_three max_four min_four   -- for this text's walks alone
set_option linter.unusedVariables false
set_option linter.unusedSimpArgs false

/-! ### intrusionlaw09_CaptureMany: function 5 -/
mutual
def intrusionlaw09_CaptureMany.j0 : Nat → Int → Int → Bool → Option (Bool)
 | 0, _, _, _ => none
 | k + 1, x0, x1, x22 => if x22 = true then ((intrusionlaw09_lives.f k).bind fun t400 => (some t400)) else (intrusionlaw09_CaptureMany.l0 k x0 x1 ([] : List (S33)) 0)
def intrusionlaw09_CaptureMany.l0 : Nat → Int → Int → List (S33) → Int → Option (Bool)
 | 0, _, _, _, _ => none
 | k + 1, x0, x1, x5, x6 => if x6 < x0 then (if x5.length < 4398046511104 then (intrusionlaw09_CaptureMany.l0 k x0 x1 (x5 ++ [(⟨x1, 0, (⟨#[]⟩ : ByteArray)⟩ : S33)]) (wrap64 (x6 + 1))) else (none)) else ((capture_Write.f k x5).bind fun bt404 => ((intrusionref09_Write.f k x5).bind fun bt406 => (if bt404.1.toList = bt406.1.toList then (intrusionlaw09_CaptureMany.j2 k x0 bt406.1 bt406.2 (bt404.2 != bt406.2)) else (intrusionlaw09_CaptureMany.j2 k x0 bt406.1 bt406.2 true))))
def intrusionlaw09_CaptureMany.j2 : Nat → Int → ByteArray → Int → Bool → Option (Bool)
 | 0, _, _, _, _ => none
 | k + 1, x0, x9, x10, x51 => if x51 = true then (none) else (if x10 = 0 then (intrusionlaw09_CaptureMany.j3 k x0 x9 (x0 == 2000)) else (intrusionlaw09_CaptureMany.j3 k x0 x9 false))
def intrusionlaw09_CaptureMany.j3 : Nat → Int → ByteArray → Bool → Option (Bool)
 | 0, _, _, _ => none
 | k + 1, x0, x9, x57 => if x57 = true then (if 0 ≤ (wrap64 ((x9.size : Int) - 16)) then (if (wrap64 ((x9.size : Int) - 16)) ≤ (x9.size : Int) then (if x9.size + (x9.extract ((wrap64 ((x9.size : Int) - 16)) : Int).toNat x9.size).size ≤ 9223372036854775807 then ((capture_Read.f k (x9 ++ (x9.extract ((wrap64 ((x9.size : Int) - 16)) : Int).toNat x9.size))).bind fun bt408 => ((capture_Read.f k x9).bind fun bt413 => (if bt408.2.1 = 3 then (if bt408.2.2 = (x9.size : Int) then (if (bt413.1.length : Int) = x0 then (if bt413.2.1 = 0 then ((intrusionlaw09_lives.f k).bind fun t418 => (some t418)) else (none)) else (none)) else (none)) else (none)))) else (none)) else (none)) else (none)) else ((intrusionlaw09_lives.f k).bind fun t419 => (some t419))
end
def intrusionlaw09_CaptureMany.f (k : Nat) (a0 : Int) (a1 : Int) : Option (Bool) := if a0 < 1990 then (intrusionlaw09_CaptureMany.j0 k a0 a1 true) else (intrusionlaw09_CaptureMany.j0 k a0 a1 (decide (a0 > 2001)))
theorem intrusionlaw09_CaptureMany.mono_l : ∀ k, (∀ y0 y1 y2, LeO (intrusionlaw09_CaptureMany.j0 k y0 y1 y2) (intrusionlaw09_CaptureMany.j0 (k + 1) y0 y1 y2)) ∧ (∀ y0 y1 y2 y3, LeO (intrusionlaw09_CaptureMany.l0 k y0 y1 y2 y3) (intrusionlaw09_CaptureMany.l0 (k + 1) y0 y1 y2 y3)) ∧ (∀ y0 y1 y2 y3, LeO (intrusionlaw09_CaptureMany.j2 k y0 y1 y2 y3) (intrusionlaw09_CaptureMany.j2 (k + 1) y0 y1 y2 y3)) ∧ (∀ y0 y1 y2, LeO (intrusionlaw09_CaptureMany.j3 k y0 y1 y2) (intrusionlaw09_CaptureMany.j3 (k + 1) y0 y1 y2))
 | 0 => ⟨fun _ _ _ r h => by simp [intrusionlaw09_CaptureMany.j0] at h, fun _ _ _ _ r h => by simp [intrusionlaw09_CaptureMany.l0] at h, fun _ _ _ _ r h => by simp [intrusionlaw09_CaptureMany.j2] at h, fun _ _ _ r h => by simp [intrusionlaw09_CaptureMany.j3] at h⟩
 | k + 1 => by
  obtain ⟨ih0, ih1, ih2, ih3⟩ := intrusionlaw09_CaptureMany.mono_l k
  refine ⟨?_, ?_, ?_, ?_⟩
  ·intro y0 y1 y2
   unfold intrusionlaw09_CaptureMany.j0
   repeat' first | with_reducible first | apply ih0 | apply ih1 | apply ih2 | apply ih3 | apply capture_Read.mono | apply capture_Write.mono | apply intrusionlaw09_lives.mono | apply intrusionref09_Write.mono | apply LeO.refl | apply LeO.none | refine LeO.ite ?_ ?_ | refine LeO.bind ?_ (fun _ => ?_)
  ·intro y0 y1 y2 y3
   unfold intrusionlaw09_CaptureMany.l0
   repeat' first | with_reducible first | apply ih0 | apply ih1 | apply ih2 | apply ih3 | apply capture_Read.mono | apply capture_Write.mono | apply intrusionlaw09_lives.mono | apply intrusionref09_Write.mono | apply LeO.refl | apply LeO.none | refine LeO.ite ?_ ?_ | refine LeO.bind ?_ (fun _ => ?_)
  ·intro y0 y1 y2 y3
   unfold intrusionlaw09_CaptureMany.j2
   repeat' first | with_reducible first | apply ih0 | apply ih1 | apply ih2 | apply ih3 | apply capture_Read.mono | apply capture_Write.mono | apply intrusionlaw09_lives.mono | apply intrusionref09_Write.mono | apply LeO.refl | apply LeO.none | refine LeO.ite ?_ ?_ | refine LeO.bind ?_ (fun _ => ?_)
  intro y0 y1 y2
  unfold intrusionlaw09_CaptureMany.j3
  repeat' first | with_reducible first | apply ih0 | apply ih1 | apply ih2 | apply ih3 | apply capture_Read.mono | apply capture_Write.mono | apply intrusionlaw09_lives.mono | apply intrusionref09_Write.mono | apply LeO.refl | apply LeO.none | refine LeO.ite ?_ ?_ | refine LeO.bind ?_ (fun _ => ?_)
theorem intrusionlaw09_CaptureMany.mono : ∀ a0 a1 k, LeO (intrusionlaw09_CaptureMany.f k a0 a1) (intrusionlaw09_CaptureMany.f (k + 1) a0 a1) := by
 intro a0 a1 k
 obtain ⟨ih0, ih1, ih2, ih3⟩ := intrusionlaw09_CaptureMany.mono_l k
 unfold intrusionlaw09_CaptureMany.f
 repeat' first | with_reducible first | apply ih0 | apply ih1 | apply ih2 | apply ih3 | apply capture_Read.mono | apply capture_Write.mono | apply intrusionlaw09_lives.mono | apply intrusionref09_Write.mono | apply LeO.refl | apply LeO.none | refine LeO.ite ?_ ?_ | refine LeO.bind ?_ (fun _ => ?_)
set_option maxHeartbeats 8000000 in
set_option maxRecDepth 100000 in
theorem intrusionlaw09_CaptureMany.calls (k : Nat) (a0 : Int) (a1 : Int) (r : Bool) (w : World) (h : intrusionlaw09_CaptureMany.f k a0 a1 = some r) :
  Calls Try.prog 5 #[.int .i64 a0, .int .i64 a1] w fun e w' => e = .returned (.bool r) ∧ Below w.heap.size w w' := by
 have hu33 := Try.underlying33
 have HB := As (Below.refl w.heap.size w)
 have H : (if a0 < 1990 then (intrusionlaw09_CaptureMany.j0 k a0 a1 true) else (intrusionlaw09_CaptureMany.j0 k a0 a1 (decide (a0 > 2001)))) = some r := h
 clear h
 have HC3 := As H
 clear H
 go_enter Try.func5, Try.ntmps5
 go_upto_region 1 with (fail)
 go_cut [22] (fun v22 wc => ∃ (kq : Nat) (x22_2 : Bool), v22 = .bool x22_2 ∧ Aside0 (intrusionlaw09_CaptureMany.j0 kq a0 a1 x22_2 = some r) ∧ Aside0 (kq ≤ k) ∧ Aside0 (Below w.heap.size w wc))
 case first =>
  have H := HC3.out
  clear HC3
  by_cases c4 : a0 < 1990
  ·rw [if_pos c4] at H
   have c4b0 : decide (a0 < 1990) = true := decide_eq_true c4
   clear c4
   (first | rw [c4b0] | (simp only [i64_w, i32_w]; rw [c4b0]) | skip)
   have H' := As H
   clear H
   go_wp2
   go_meet
   case rel => exact ⟨_, (true), kS, H', ⟨by first | omega | exact Nat.le_refl _⟩, ⟨kB HB.out⟩⟩
  rw [if_neg c4] at H
  have c4b0 : decide (a0 < 1990) = false := decide_eq_false c4
  clear c4
  (first | rw [c4b0] | (simp only [i64_w, i32_w]; rw [c4b0]) | skip)
  have H' := As H
  clear H
  go_wp2
  go_meet
  case rel => exact ⟨_, (decide (a0 > 2001)), kS, H', ⟨by first | omega | exact Nat.le_refl _⟩, ⟨kB HB.out⟩⟩
 clear HC3
 obtain ⟨kq, x22_2, rfl, HA, HJ2, HB⟩ := hcut
 cases kq with
 | zero => exact absurd HA.out (by simp [intrusionlaw09_CaptureMany.j0])
 | succ kj2 =>
  have H := HA.out
  clear HA
  simp only [intrusionlaw09_CaptureMany.j0] at H
  by_cases c5 : x22_2 = true
  ·subst c5
   have H1 : ((intrusionlaw09_lives.f kj2).bind fun t400 => (some t400)) = some r := by rw [if_pos rfl] at H; exact H
   clear H
   have H := H1
   clear H1
   replace H := Option.bind_eq_some_iff.mp H
   obtain ⟨t400, A60, H⟩ := H
   replace H : (some t400) = some r := H
   have A6 := As A60
   clear A60
   obtain rfl := Option.some.inj H
   go_wp2_with (first | ((with_reducible refine gate_callee (f := 11) rfl ?_); refine goesL_ (some 23) rfl rfl Try.func11 (by kernel_rfl) rfl #[] rfl kA ?_; (with_reducible refine (intrusionlaw09_lives.calls kj2  t400 _ A6.out).mono ?_); rintro e w7 ⟨rfl, hb⟩; refine ⟨_, rfl, ?_⟩; replace HB := As (below_step (kB HB.out) hb); (try clear hb)))
   go_ret
   exact ⟨kE, by exact kB HB.out⟩
  replace c5 := Bool.eq_false_iff.mpr c5
  subst c5
  have H1 : (intrusionlaw09_CaptureMany.l0 kj2 a0 a1 ([] : List (S33)) 0) = some r := by rw [if_neg (show ¬ (false = true) by decide)] at H; exact H
  clear H
  have H := H1
  clear H1
  have H' := As H
  clear H
  go_wp2
  go_loopg [5, 6] kj2 (fun kq v5 v6 w' => ∃ (x5_2 : List (S33)) (x6_2 : Int), v6 = .int .i64 x6_2 ∧ Aside0 (intrusionlaw09_CaptureMany.l0 kq a0 a1 x5_2 x6_2 = some r) ∧ Aside0 (kq ≤ kj2) ∧ Aside0 (Kd.R k33 33 w' w.heap.size (fun _ => True) v5 x5_2) ∧ Aside0 (Below w.heap.size w w'))
  case atStart => exact ⟨(([] : List (S33))), (0), kS, H', ⟨Nat.le_refl _⟩, ⟨by first | exact Kd.R_nil _ _ _ _ _ | exact Kd.N_nil _ _ _ _ _ | exact Kd.V_nil _ _ _ _ _ | exact Kd.Q_nil _ _ _ _ _ | exact Kd.S_nil _ _ _ _ _⟩, ⟨kB HB.out⟩⟩
  clear H'
  try clear c5
  obtain ⟨x5_2, x6_2, rfl, HA, HK2, HO_5, HB⟩ := hrel
  cases gk with
  | zero => exact absurd HA.out (by simp [intrusionlaw09_CaptureMany.l0])
  | succ k2 =>
   have H := HA.out
   clear HA
   simp only [intrusionlaw09_CaptureMany.l0] at H
   by_cases c8 : x6_2 < a0
   ·rw [if_pos c8] at H
    have c8b0 : decide (x6_2 < a0) = true := decide_eq_true c8
    clear c8
    by_cases c9 : x5_2.length < 4398046511104
    ·rw [if_pos c9] at H
     have LMc9 := As c9
     clear c9
     obtain ⟨y401, hy401⟩ : ∃ y_ : List (S33), y_ = (x5_2 ++ [(⟨a1, 0, (⟨#[]⟩ : ByteArray)⟩ : S33)]) := ⟨_, rfl⟩
     replace H : (intrusionlaw09_CaptureMany.l0 k2 a0 a1 y401 (wrap64 (x6_2 + 1))) = some r := by first | (rw [hy401]; with_reducible exact H) | (have H2_ := (Option.bind_some _ _).symm.trans H; rw [hy401]; with_reducible exact H2_) | (have H2_ := (Option.bind_some _ _).symm.trans H; with_reducible exact H2_) | with_reducible exact H | (rw [hy401]; exact H) | exact H
     have Ny401 := As hy401
     clear hy401
     have H' := As H
     clear H
     go_wp2_with (first | ((with_reducible refine gate_builtin (b := .append) (xs := #[.tmp 29, .tmp 32]) rfl ?_); (try (refine gate_guard (by rfl) ?_; dsimp only)); at_builtin; refine Kd.R_append k33 (w0 := w) w.heap.size rfl (.tmp 29) (.tmp 32) 23 33 (.agg #[(.int .i64 0), (.int .i64 0), (.string ⟨#[]⟩)]) 32 rfl Try.underlying23 info33 rfl (by decide) (by omega) u5 x5_2 (⟨a1, 0, (⟨#[]⟩ : ByteArray)⟩ : S33) [.int .i64 a1, .int .i64 0, .string (⟨#[]⟩ : ByteArray)] (fun _ => True) (fun _ => False) rfl rfl ?aP (fun _ hk => hk.elim) ?aF ?aO ?aB ?aS ?aL ?_; (case aP => exact k33_mkM _ _ _ (⟨a1, 0, (⟨#[]⟩ : ByteArray)⟩ : S33)); (case aB => exact (kB HB.out)); (case aF => exact (fun _ _ => trivial)); (case aO => exact (kR HO_5.out)); (case aS => exact (below_size (kB HB.out))); (case aL => have := LMc9.out; omega); intro v402 w10 ho hb hg hat; rw [← Ny401.out] at ho; replace HB := As (hb); have HO403 := As (ho); clear HO_5; clear ho hb hg hat))
     go_roundg k2
     case measure => have := HJ2.out; have := HK2.out; omega
     case rel => exact ⟨(y401), (wrap64 (x6_2 + 1)), kS, H', ⟨by have := HJ2.out; have := HK2.out; omega⟩, ⟨by (with_reducible repeat (first | apply Kd.R_alloc | apply Kd.R_drewN | apply Kd.R_drew)); exact HO403.out⟩, ⟨kB HB.out⟩⟩
    rw [if_neg c9] at H
    exact absurd H (by simp)
   rw [if_neg c8] at H
   have c8b0 : decide (x6_2 < a0) = false := decide_eq_false c8
   clear c8
   replace H := Option.bind_eq_some_iff.mp H
   obtain ⟨⟨t404, t405⟩, A110, H⟩ := H
   replace H : ((intrusionref09_Write.f k2 x5_2).bind fun bt406 => (if t404.toList = bt406.1.toList then (intrusionlaw09_CaptureMany.j2 k2 a0 bt406.1 bt406.2 (t405 != bt406.2)) else (intrusionlaw09_CaptureMany.j2 k2 a0 bt406.1 bt406.2 true))) = some r := H
   have A11 := As A110
   clear A110
   replace H := Option.bind_eq_some_iff.mp H
   obtain ⟨⟨t406, t407⟩, A120, H⟩ := H
   replace H : (if t404.toList = t406.toList then (intrusionlaw09_CaptureMany.j2 k2 a0 t406 t407 (t405 != t407)) else (intrusionlaw09_CaptureMany.j2 k2 a0 t406 t407 true)) = some r := H
   have A12 := As A120
   clear A120
   have HC13 := As H
   clear H
   obtain ⟨Ao14, co14, eo14⟩ := Kd.R_slice HO_5.out
   subst eo14
   go_upto_region 10 with (first | ((with_reducible refine gate_callee (f := 16) rfl ?_); refine goesL_ (some 36) rfl rfl Try.func16 (by kernel_rfl) rfl #[.slice Ao14 x5_2.length co14] rfl kA ?_; (with_reducible refine (capture_Write.calls k2 _ _ x5_2 t404 t405 _ ?side1 ?side2 A11.out).mono ?_); (case side1 => repeat (first | exact (Kd.R_reads' HO_5.out).2.2 | (with_reducible refine Kd.C_alloc ?_ _) | (with_reducible refine Kd.C_drewN ?_ _) | (with_reducible refine Kd.C_drew ?_))); (case side2 => exact (Kd.R_reads' HO_5.out).2.1); rintro e w15 ⟨rfl, hb⟩; refine ⟨_, rfl, ?_⟩; replace HO_5 := As (Kd.R_below (kR HO_5.out) hb); replace HB := As (below_step (kB HB.out) hb); (try clear hb)) | ((with_reducible refine gate_callee (f := 17) rfl ?_); refine goesL_ (some 41) rfl rfl Try.func17 (by kernel_rfl) rfl #[.slice Ao14 x5_2.length co14] rfl kA ?_; (with_reducible refine (intrusionref09_Write.calls k2 _ _ x5_2 t406 t407 _ ?side1 ?side2 A12.out).mono ?_); (case side1 => repeat (first | exact (Kd.R_reads' HO_5.out).2.2 | (with_reducible refine Kd.C_alloc ?_ _) | (with_reducible refine Kd.C_drewN ?_ _) | (with_reducible refine Kd.C_drew ?_))); (case side2 => exact (Kd.R_reads' HO_5.out).2.1); rintro e w16 ⟨rfl, hb⟩; refine ⟨_, rfl, ?_⟩; replace HO_5 := As (Kd.R_below (kR HO_5.out) hb); replace HB := As (below_step (kB HB.out) hb); (try clear hb)))
   (try simp only [Act.put, sA, sZ, sS])
   go_cut [51] (fun v51 wc => ∃ (kq : Nat) (x51_12 : Bool), v51 = .bool x51_12 ∧ Aside0 (intrusionlaw09_CaptureMany.j2 kq a0 t406 t407 x51_12 = some r) ∧ Aside0 (kq ≤ k2) ∧ Aside0 (Below w.heap.size w wc))
   case first =>
    have H := HC13.out
    clear HC13
    by_cases c17 : t404.toList = t406.toList
    ·rw [if_pos c17] at H
     have c17b0 : (t404.toList == t406.toList) = true := beq_iff_eq.mpr c17
     have c17b1 : (t404.toList != t406.toList) = false := bne_eq_false_iff_eq.mpr c17
     clear c17
     (first | rw [c17b0] | (simp only [i64_w, i32_w]; rw [c17b0]) | skip)
     have H' := As H
     clear H
     go_wp2
     go_meet
     case rel => exact ⟨_, ((t405 != t407)), kS, H', ⟨by have := HJ2.out; have := HK2.out; first | omega | exact Nat.le_refl _⟩, ⟨kB HB.out⟩⟩
    rw [if_neg c17] at H
    have c17b0 : (t404.toList == t406.toList) = false := beq_eq_false_iff_ne.mpr c17
    have c17b1 : (t404.toList != t406.toList) = true := bne_iff_ne.mpr c17
    (first | rw [c17b0] | (simp only [i64_w, i32_w]; rw [c17b0]) | skip)
    have H' := As H
    clear H
    go_wp2
    go_meet
    case rel => exact ⟨_, (true), kS, H', ⟨by have := HJ2.out; have := HK2.out; first | omega | exact Nat.le_refl _⟩, ⟨kB HB.out⟩⟩
   clear HC13
   try clear c8
   try clear c8b0
   obtain ⟨kq, x51_12, rfl, HA, HJ12, HB⟩ := hcut
   cases kq with
   | zero => exact absurd HA.out (by simp [intrusionlaw09_CaptureMany.j2])
   | succ kj12 =>
    have H := HA.out
    clear HA
    simp only [intrusionlaw09_CaptureMany.j2] at H
    by_cases c18 : x51_12 = true
    ·subst c18
     have H1 : (none) = some r := by rw [if_pos rfl] at H; exact H
     clear H
     have H := H1
     clear H1
     exact absurd H (by simp)
    replace c18 := Bool.eq_false_iff.mpr c18
    subst c18
    have H1 : (if t407 = 0 then (intrusionlaw09_CaptureMany.j3 kj12 a0 t406 (a0 == 2000)) else (intrusionlaw09_CaptureMany.j3 kj12 a0 t406 false)) = some r := by rw [if_neg (show ¬ (false = true) by decide)] at H; exact H
    clear H
    have H := H1
    clear H1
    have HC19 := As H
    clear H
    go_upto_region 12 with (fail)
    go_cut [57] (fun v57 wc => ∃ (kq : Nat) (x57_18 : Bool), v57 = .bool x57_18 ∧ Aside0 (intrusionlaw09_CaptureMany.j3 kq a0 t406 x57_18 = some r) ∧ Aside0 (kq ≤ kj12) ∧ Aside0 (Below w.heap.size w wc))
    case first =>
     have H := HC19.out
     clear HC19
     by_cases c20 : t407 = 0
     ·rw [if_pos c20] at H
      have c20b0 : (t407 == 0) = true := beq_iff_eq.mpr c20
      have c20b1 : (t407 != 0) = false := bne_eq_false_iff_eq.mpr c20
      clear c20
      (first | rw [c20b0] | (simp only [i64_w, i32_w]; rw [c20b0]) | skip)
      have H' := As H
      clear H
      go_wp2
      go_meet
      case rel => exact ⟨_, ((a0 == 2000)), kS, H', ⟨by have := HJ2.out; have := HK2.out; have := HJ12.out; first | omega | exact Nat.le_refl _⟩, ⟨kB HB.out⟩⟩
     rw [if_neg c20] at H
     have c20b0 : (t407 == 0) = false := beq_eq_false_iff_ne.mpr c20
     have c20b1 : (t407 != 0) = true := bne_iff_ne.mpr c20
     (first | rw [c20b0] | (simp only [i64_w, i32_w]; rw [c20b0]) | skip)
     have H' := As H
     clear H
     go_wp2
     go_meet
     case rel => exact ⟨_, (false), kS, H', ⟨by have := HJ2.out; have := HK2.out; have := HJ12.out; first | omega | exact Nat.le_refl _⟩, ⟨kB HB.out⟩⟩
    clear HC19
    try clear c18
    obtain ⟨kq, x57_18, rfl, HA, HJ18, HB⟩ := hcut
    cases kq with
    | zero => exact absurd HA.out (by simp [intrusionlaw09_CaptureMany.j3])
    | succ kj18 =>
     have H := HA.out
     clear HA
     simp only [intrusionlaw09_CaptureMany.j3] at H
     by_cases c21 : x57_18 = true
     ·subst c21
      have H1 : (if 0 ≤ (wrap64 ((t406.size : Int) - 16)) then (if (wrap64 ((t406.size : Int) - 16)) ≤ (t406.size : Int) then (if t406.size + (t406.extract ((wrap64 ((t406.size : Int) - 16)) : Int).toNat t406.size).size ≤ 9223372036854775807 then ((capture_Read.f kj18 (t406 ++ (t406.extract ((wrap64 ((t406.size : Int) - 16)) : Int).toNat t406.size))).bind fun bt408 => ((capture_Read.f kj18 t406).bind fun bt413 => (if bt408.2.1 = 3 then (if bt408.2.2 = (t406.size : Int) then (if (bt413.1.length : Int) = a0 then (if bt413.2.1 = 0 then ((intrusionlaw09_lives.f kj18).bind fun t418 => (some t418)) else (none)) else (none)) else (none)) else (none)))) else (none)) else (none)) else (none)) = some r := by rw [if_pos rfl] at H; exact H
      clear H
      have H := H1
      clear H1
      obtain ⟨ji22, hji22⟩ : ∃ j_ : Int, (wrap64 ((t406.size : Int) - 16)) = j_ := ⟨_, rfl⟩
      replace H : (if 0 ≤ (ji22) then (if (ji22) ≤ (t406.size : Int) then (if t406.size + (t406.extract ((ji22) : Int).toNat t406.size).size ≤ 9223372036854775807 then ((capture_Read.f kj18 (t406 ++ (t406.extract ((ji22) : Int).toNat t406.size))).bind fun bt408 => ((capture_Read.f kj18 t406).bind fun bt413 => (if bt408.2.1 = 3 then (if bt408.2.2 = (t406.size : Int) then (if (bt413.1.length : Int) = a0 then (if bt413.2.1 = 0 then ((intrusionlaw09_lives.f kj18).bind fun t418 => (some t418)) else (none)) else (none)) else (none)) else (none)))) else (none)) else (none)) else (none)) = some r := by first | (rw [hji22] at H; exact H) | (simp only [hji22] at H ⊢; exact H)
      have hji22w : (IntKind.i64.wrap ((t406.size : Int) - 16)) = ji22 := (i64_w _).trans hji22
      by_cases c23 : 0 ≤ (ji22)
      ·rw [if_pos c23] at H
       have c23b0 := eq_true c23
       have c23b1 : decide (0 ≤ (ji22)) = true := decide_eq_true c23
       clear c23
       by_cases c24 : (ji22) ≤ (t406.size : Int)
       ·rw [if_pos c24] at H
        have c24b0 := eq_true c24
        have c24b1 : decide ((ji22) ≤ (t406.size : Int)) = true := decide_eq_true c24
        clear c24
        by_cases c25 : t406.size + (t406.extract ((ji22) : Int).toNat t406.size).size ≤ 9223372036854775807
        ·rw [if_pos c25] at H
         have c25b0 := eq_true c25
         have c25b1 : decide (t406.size + (t406.extract ((ji22) : Int).toNat t406.size).size ≤ 9223372036854775807) = true := decide_eq_true c25
         (try (have c25s0 : (9223372036854775807 < t406.size + ((t406.size - ((ji22) : Int).toNat))) = False := by have h_ := c25; simp only [ByteArray.size_append, ByteArray.size_extract] at h_; exact eq_false (by first | omega | (omega))))
         (try (have c25s1 : (t406.size + ((t406.size - ((ji22) : Int).toNat)) ≤ 9223372036854775807) = True := by have h_ := c25; simp only [ByteArray.size_append, Int.natCast_add, Int.toNat_natCast] at h_; first | exact eq_true h_ | exact eq_true (by omega)))
         (try (have c25s2 : decide (t406.size + ((t406.size - ((ji22) : Int).toNat)) ≤ 9223372036854775807) = true := by have h_ := c25; first | (simp only [ByteArray.size_append, Int.toNat_natCast] at h_; first | exact beq_iff_eq.mpr h_ | exact beq_eq_false_iff_ne.mpr h_ | exact bne_iff_ne.mpr h_ | exact bne_eq_false_iff_eq.mpr h_ | (rw [beq_iff_eq.mpr h_]; rfl) | (rw [beq_eq_false_iff_ne.mpr h_]; rfl)) | (simp only [ByteArray.size_append, Int.natCast_add, Int.toNat_natCast] at h_ ⊢; first | exact h_ | simpa using h_ | simp [h_] | omega) | (simp only [ByteArray.size_append] at h_; simp at h_ ⊢; omega) | (simp only [ByteArray.size_append, Int.natCast_add, Int.toNat_natCast] at h_; simpa using h_)))
         try have c25b2 : (9223372036854775807 < t406.size + (t406.extract ((ji22) : Int).toNat t406.size).size) = False := eq_false (Nat.not_lt.2 c25)
         replace H := Option.bind_eq_some_iff.mp H
         obtain ⟨⟨t408, t409, t410⟩, A260, H⟩ := H
         replace H : ((capture_Read.f kj18 t406).bind fun bt413 => (if t409 = 3 then (if t410 = (t406.size : Int) then (if (bt413.1.length : Int) = a0 then (if bt413.2.1 = 0 then ((intrusionlaw09_lives.f kj18).bind fun t418 => (some t418)) else (none)) else (none)) else (none)) else (none))) = some r := H
         have A26 := As A260
         clear A260
         replace H := Option.bind_eq_some_iff.mp H
         obtain ⟨⟨t413, t414, t415⟩, A270, H⟩ := H
         replace H : (if t409 = 3 then (if t410 = (t406.size : Int) then (if (t413.length : Int) = a0 then (if t414 = 0 then ((intrusionlaw09_lives.f kj18).bind fun t418 => (some t418)) else (none)) else (none)) else (none)) else (none)) = some r := H
         have A27 := As A270
         clear A270
         by_cases c28 : t409 = 3
         ·rw [if_pos c28] at H
          have c28b0 : (t409 == 3) = true := beq_iff_eq.mpr c28
          have c28b1 : (t409 != 3) = false := bne_eq_false_iff_eq.mpr c28
          clear c28
          by_cases c29 : t410 = (t406.size : Int)
          ·rw [if_pos c29] at H
           have c29b0 : (t410 == (t406.size : Int)) = true := beq_iff_eq.mpr c29
           have c29b1 : (t410 != (t406.size : Int)) = false := bne_eq_false_iff_eq.mpr c29
           clear c29
           by_cases c30 : (t413.length : Int) = a0
           ·rw [if_pos c30] at H
            have c30b0 : ((t413.length : Int) == a0) = true := beq_iff_eq.mpr c30
            have c30b1 : ((t413.length : Int) != a0) = false := bne_eq_false_iff_eq.mpr c30
            clear c30
            by_cases c31 : t414 = 0
            ·rw [if_pos c31] at H
             have c31b0 : (t414 == 0) = true := beq_iff_eq.mpr c31
             have c31b1 : (t414 != 0) = false := bne_eq_false_iff_eq.mpr c31
             clear c31
             replace H := Option.bind_eq_some_iff.mp H
             obtain ⟨t418, A320, H⟩ := H
             replace H : (some t418) = some r := H
             have A32 := As A320
             clear A320
             obtain rfl := Option.some.inj H
             go_wp2_with (first | ((with_reducible refine gate_callee (f := 12) rfl ?_); refine goesL_ (some 66) rfl rfl Try.func12 (by kernel_rfl) rfl #[.string (t406 ++ (t406.extract ((ji22) : Int).toNat t406.size))] rfl (by (try simp only [List.map_toArray, List.map_cons, List.map_nil]); first | done | (simp only [hji22]; rfl) | rfl | (simp only [List.length_drop, List.length_take]; rfl)) ?_; (with_reducible refine (capture_Read.calls kj18 (t406 ++ (t406.extract ((ji22) : Int).toNat t406.size)) t408 t409 t410 _ A26.out).mono ?_); rintro e w33 ⟨v411, rfl, ho0, hb⟩; refine ⟨_, rfl, ?_⟩; have HO412 := As (Kd.R_lower ho0 (below_size (kB HB.out))); replace HB := As (below_step (kB HB.out) hb); (try clear hb); (try clear ho0)) | ((with_reducible refine gate_callee (f := 12) rfl ?_); refine goesL_ (some 72) rfl rfl Try.func12 (by kernel_rfl) rfl #[.string t406] rfl kA ?_; (with_reducible refine (capture_Read.calls kj18 t406 t413 t414 t415 _ A27.out).mono ?_); rintro e w34 ⟨v416, rfl, ho0, hb⟩; refine ⟨_, rfl, ?_⟩; have HO417 := As (Kd.R_lower (Kd.R_new' ho0 (Kd.R_lt (kR HO412.out))) (below_size (kB HB.out))); replace HO412 := As (Kd.R_elder' (kR HO412.out) (Kd.R_base ho0) hb); replace HB := As (below_step (kB HB.out) hb); (try clear hb); (try clear ho0); obtain ⟨Ao35, co35, eo35⟩ := Kd.R_slice HO417.out; subst eo35) | (go_at_call 11; (with_reducible refine (intrusionlaw09_lives.calls kj18  t418 _ A32.out).mono ?_); rintro e w36 ⟨rfl, hb⟩; replace HO412 := As (Kd.R_below (kR HO412.out) hb); replace HO417 := As (Kd.R_below (kR HO417.out) hb); replace HB := As (below_step (kB HB.out) hb); (try clear hb)))
             go_ret
             exact ⟨by first | rfl | (simp [errW_none, errW_some] <;> rfl) | (simp only [← hji22]; first | rfl | (simp [errW_none, errW_some] <;> rfl)) | (simp [*, errW_none, errW_some] <;> rfl), by exact kB HB.out⟩
            rw [if_neg c31] at H
            exact absurd H (by simp)
           rw [if_neg c30] at H
           exact absurd H (by simp)
          rw [if_neg c29] at H
          exact absurd H (by simp)
         rw [if_neg c28] at H
         exact absurd H (by simp)
        rw [if_neg c25] at H
        exact absurd H (by simp)
       rw [if_neg c24] at H
       exact absurd H (by simp)
      rw [if_neg c23] at H
      exact absurd H (by simp)
     replace c21 := Bool.eq_false_iff.mpr c21
     subst c21
     have H1 : ((intrusionlaw09_lives.f kj18).bind fun t419 => (some t419)) = some r := by rw [if_neg (show ¬ (false = true) by decide)] at H; exact H
     clear H
     have H := H1
     clear H1
     replace H := Option.bind_eq_some_iff.mp H
     obtain ⟨t419, A370, H⟩ := H
     replace H : (some t419) = some r := H
     have A37 := As A370
     clear A370
     obtain rfl := Option.some.inj H
     go_wp2_with (first | ((with_reducible refine gate_callee (f := 11) rfl ?_); refine goesL_ (some 97) rfl rfl Try.func11 (by kernel_rfl) rfl #[] rfl kA ?_; (with_reducible refine (intrusionlaw09_lives.calls kj18  t419 _ A37.out).mono ?_); rintro e w38 ⟨rfl, hb⟩; refine ⟨_, rfl, ?_⟩; replace HB := As (below_step (kB HB.out) hb); (try clear hb)))
     go_ret
     exact ⟨kE, by exact kB HB.out⟩

end Go.Proofs.Ytafjmciojeondaa.X
-- short
