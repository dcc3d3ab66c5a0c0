/- What the functions of the translation that this claim's statement reaches compute, each proved by its walk. Written by xprint.py, a program of this claim's author, run over the kit's printer. -/
import Derived.Test.YtjlhicpkceplhaaDoorX0
import Derived.Test.YtjlhicpkceplhaaDoorX1
import Derived.Test.YtjlhicpkceplhaaDoorX3
import Derived.Test.YtjlhicpkceplhaaDoorX7
namespace Go.Proofs.YtjlhicpkceplhaaDoor.X
open Go.RowKit Go.Proofs.YtjlhicpkceplhaaDoorW.PrintWords Go.Proofs.YtjlhicpkceplhaaDoorW.PrintLast Go.Proofs.YtjlhicpkceplhaaDoorW.PrintMore
attribute [local go_sem] max2_int min2_int max_two min_two max_three min_three max_four min_four   -- for this text's walks alone
set_option linter.unusedVariables false
set_option linter.unusedSimpArgs false

/-! ### field_number: function 35 -/
def field_number.l0 : Nat → Int → List Int → Int → Int → Option (Int)
  | 0, _, _, _, _ => none
  | k + 1, x3, x6, x7, x8 => if x8 < x7 then (if 0 ≤ x8 then (if x8 < (x6.length : Int) then (field_number.l0 k (Go.bits .or .i64 (wrap64 (x3 * 256)) (wrap64 (rd x6 x8))) x6 x7 (wrap64 (x8 + 1))) else (none)) else (none)) else (some x3)
def field_number.f (k : Nat) (l0 : List Int) : Option (Int) := field_number.l0 k 0 l0 (l0.length : Int) 0
theorem field_number.mono_l : ∀ k, (∀ y0 y1 y2 y3, LeO (field_number.l0 k y0 y1 y2 y3) (field_number.l0 (k + 1) y0 y1 y2 y3))
  | 0 => fun _ _ _ _ r h => by simp [field_number.l0] at h
  | k + 1 => by
    have ih0 := field_number.mono_l k
    · intro y0 y1 y2 y3
      unfold field_number.l0
      repeat' first
      | (with_reducible exact ih0 _ _ _ _)
      | (with_reducible exact LeO.refl _)
      | (with_reducible exact LeO.none _)
      | (with_reducible refine LeO.ite ?_ ?_)
      | (with_reducible refine LeO.bind ?_ (fun _ => ?_))
      | exact ih0 _ _ _ _
      | exact LeO.none _
      | refine LeO.ite ?_ ?_
      | refine LeO.bind ?_ (fun _ => ?_)
theorem field_number.mono : ∀ a0 k, LeO (field_number.f k a0) (field_number.f (k + 1) a0) := by
  intro a0 k
  have ih0 := field_number.mono_l k
  unfold field_number.f
  repeat' first
      | (with_reducible exact ih0 _ _ _ _)
      | (with_reducible exact LeO.refl _)
      | (with_reducible exact LeO.none _)
      | (with_reducible refine LeO.ite ?_ ?_)
      | (with_reducible refine LeO.bind ?_ (fun _ => ?_))
      | exact ih0 _ _ _ _
      | exact LeO.none _
      | refine LeO.ite ?_ ?_
      | refine LeO.bind ?_ (fun _ => ?_)
set_option maxHeartbeats 8000000 in
set_option maxRecDepth 100000 in
theorem field_number.calls (k : Nat) (A0 : Option Addr) (c0 : Nat) (l0 : List Int) (r : Int) (w : World) (hr0 : Kd.C (Kd.int .u8) w A0 l0.length l0) (hc0 : l0.length ≤ c0) (h : field_number.f k l0 = some r) :
    Calls Tryd.prog 35 #[.slice A0 l0.length c0] w fun e w' => e = .returned (.int .i64 r) ∧ Drawn0 w w' := by
  have HR0 := Aside0.mk hr0
  have HC0 := Aside0.mk hc0
  clear hr0 hc0
  have H : (field_number.l0 k 0 l0 (l0.length : Int) 0) = some r := h
  clear h
  have H' := Aside0.mk H
  clear H
  go_enter Tryd.func35, Tryd.ntmps35
  go_wp2
  go_loopg [3, 8] k (fun kq v3 v8 w' => ∃ (x3_1 : Int) (x8_1 : Int), v3 = .int .i64 x3_1 ∧ v8 = .int .i64 x8_1 ∧ Aside0 (field_number.l0 kq x3_1 l0 (l0.length : Int) x8_1 = some r) ∧ Aside0 (kq ≤ k) ∧ Drawn0 w w')
  case atStart => exact ⟨(0), (0), (by first | rfl | (simp; done) | (simp [*]; done)), (by first | rfl | (simp; done) | (simp [*]; done)), H', ⟨Nat.le_refl _⟩, by repeat (first | exact Drawn0.refl _ | apply Drawn0.step)⟩
  case round =>
    clear H'
    obtain ⟨x3_1, x8_1, rfl, rfl, HA, HK1, ⟨m1, rfl⟩⟩ := hrel
    cases gk with
    | zero => exact absurd HA.out (by simp [field_number.l0])
    | succ k1 =>
      have H := HA.out
      clear HA
      simp only [field_number.l0] at H
      by_cases c2 : x8_1 < (l0.length : Int)
      · rw [if_pos c2] at H
        have c2b0 : decide (x8_1 < (l0.length : Int)) = true := decide_eq_true c2
        clear c2
        by_cases c3 : 0 ≤ x8_1
        · rw [if_pos c3] at H
          have c3b0 : decide (0 ≤ x8_1) = true := decide_eq_true c3
          clear c3
          by_cases c4 : x8_1 < (l0.length : Int)
          · rw [if_pos c4] at H
            have c4b0 : decide (x8_1 < (l0.length : Int)) = true := decide_eq_true c4
            clear c4
            have H' := Aside0.mk H
            clear H
            have p209 : 0 ≤ (x8_1 : Int) := of_decide_eq_true (by first | (with_reducible assumption) | assumption)
            have q209 : x8_1 < (l0.length : Int) := of_decide_eq_true (by first | (with_reducible assumption) | assumption)
            obtain ⟨ad209, e209, hx209_0⟩ := Kd.at_int HR0.out x8_1 p209 q209
            cases e209
            replace p209 := eq_true p209
            replace q209 := eq_true q209
            go_wp2
            go_roundg k1
            case measure => have := HK1.out; omega
            case rel => exact ⟨(Go.bits .or .i64 (wrap64 (x3_1 * 256)) (wrap64 (rd l0 x8_1))), (wrap64 (x8_1 + 1)), (by first | rfl | (simp; done) | (simp [*]; done)), (by first | rfl | (simp; done) | (simp [*]; done)), H', ⟨by have := HK1.out; omega⟩, by repeat (first | exact Drawn0.refl _ | apply Drawn0.step)⟩
          · rw [if_neg c4] at H
            exact absurd H (by simp)
        · rw [if_neg c3] at H
          exact absurd H (by simp)
      · rw [if_neg c2] at H
        have c2b0 : decide (x8_1 < (l0.length : Int)) = false := decide_eq_false c2
        clear c2
        obtain rfl := Option.some.inj H
        go_wp2
        go_ret
        exact ⟨by first | rfl | (simp; done) | (simp [*]; done), by repeat (first | exact Drawn0.refl _ | apply Drawn0.step)⟩

/-! ### field_Get: function 25 -/
def field_Get.f (k : Nat) (a0 : ByteArray) (a1 : Int) (a2 : Int) : Option (Int × Int) :=
  if a0.size ≤ 9223372036854775807 then (if (a2 < 1 ∨ 7 < a2) ∨ a1 < 0 then some (0, 4) else if (a0.size : Int) < a1 ∨ (a0.size : Int) - a1 < a2 then some (0, 1)
    else (field_number.f k (bytesOf (a0.extract a1.toNat (a1 + a2).toNat))).bind fun t => some (t, 0)) else none
theorem field_Get.mono : ∀ a0 a1 a2 k, LeO (field_Get.f k a0 a1 a2) (field_Get.f (k + 1) a0 a1 a2) := by
  intro a0 a1 a2 k
  unfold field_Get.f
  refine LeO.ite ?_ (LeO.none _)
  refine LeO.ite (LeO.refl _) ?_
  refine LeO.ite (LeO.refl _) ?_
  exact LeO.bind (field_number.mono _ k) (fun _ => LeO.refl _)
theorem field_Get.number_nil : field_number.f 1 [] = some 0 := by decide
set_option maxHeartbeats 8000000 in
set_option maxRecDepth 100000 in
theorem field_Get.calls (k : Nat) (a0 : ByteArray) (a1 : Int) (a2 : Int) (r1 : Int) (r2 : Int) (w : World) (h : field_Get.f k a0 a1 a2 = some (r1, r2)) :
    Calls Tryd.prog 25 #[.string a0, .int .i64 a1, .int .i64 a2] w fun e w' => e = .returned (.tuple #[.int .i64 r1, .int .i64 r2]) ∧ Below w.heap.size w w' := by
  unfold field_Get.f at h
  have hsz : a0.size ≤ 9223372036854775807 := by
    rcases Nat.lt_or_ge 9223372036854775807 a0.size with h' | h'
    · rw [if_neg (by omega)] at h; cases h
    · exact h'
  rw [if_pos hsz] at h
  have hs0 : (0 : Int) ≤ (a0.size : Int) := by omega
  by_cases c1 : (a2 < 1 ∨ 7 < a2) ∨ a1 < 0
  · rw [if_pos c1] at h
    simp only [Option.some.injEq, Prod.mk.injEq] at h
    obtain ⟨rfl, rfl⟩ := h
    have HR := fun W => field_part.range a0 a1 a2 W c1
    have HRA := Aside0.mk HR
    clear HR
    by_cases hv : 1 ≤ a2 ∧ a2 ≤ 7
    · have ha : decide (0 ≤ a1) = false := decide_eq_false (by omega)
      have A1 := Aside0.mk (show field_valid.f a2 = some true by unfold field_valid.f; rw [if_pos hv.1]; simp [hv.2])
      clear hv c1
      go_enter Tryd.func25, Tryd.ntmps25
      go_wp2_with (first | (go_at_call 33; (with_reducible refine (field_valid.calls a2 true _ A1.out).mono ?_); rintro e w' ⟨rfl, ⟨nd, rfl⟩⟩) | (go_at_call 34; refine (HRA.out _).mono ?_; rintro e w1 ⟨rfl, hb⟩) | (go_at_call 35; refine (calls_of_args (args' := #[.slice none ([] : List Int).length 0]) rfl (field_number.calls 1 none 0 [] 0 _ (Kd.C_nil _ _) (Nat.zero_le _) field_Get.number_nil)).mono ?_; rintro e w2 ⟨rfl, ⟨nd2, rfl⟩⟩))
      go_ret2
      exact ⟨rfl, pw_below_drewN (below_step (pw_below_drewN (Below.refl _ _) _) hb) _⟩
    · have A1 := Aside0.mk (show field_valid.f a2 = some false by unfold field_valid.f; split <;> simp; omega)
      clear hv c1
      go_enter Tryd.func25, Tryd.ntmps25
      go_wp2_with (first | (go_at_call 33; (with_reducible refine (field_valid.calls a2 false _ A1.out).mono ?_); rintro e w' ⟨rfl, ⟨nd, rfl⟩⟩) | (go_at_call 34; refine (HRA.out _).mono ?_; rintro e w1 ⟨rfl, hb⟩) | (go_at_call 35; refine (calls_of_args (args' := #[.slice none ([] : List Int).length 0]) rfl (field_number.calls 1 none 0 [] 0 _ (Kd.C_nil _ _) (Nat.zero_le _) field_Get.number_nil)).mono ?_; rintro e w2 ⟨rfl, ⟨nd2, rfl⟩⟩))
      go_ret2
      exact ⟨rfl, pw_below_drewN (below_step (pw_below_drewN (Below.refl _ _) _) hb) _⟩
  · rw [if_neg c1] at h
    have A1 := Aside0.mk (show field_valid.f a2 = some true by unfold field_valid.f; rw [if_pos (by omega)]; simp; omega)
    have ha : decide (0 ≤ a1) = true := decide_eq_true (by omega)
    by_cases c2 : (a0.size : Int) < a1 ∨ (a0.size : Int) - a1 < a2
    · rw [if_pos c2] at h
      simp only [Option.some.injEq, Prod.mk.injEq] at h
      obtain ⟨rfl, rfl⟩ := h
      have HR := fun W => field_part.short a0 a1 a2 W (by omega) (by omega) (by omega) hsz c2
      have HRA := Aside0.mk HR
      clear HR
      by_cases hb : a1 ≤ (a0.size : Int)
      · have hc : decide (a1 ≤ (a0.size : Int)) = true := decide_eq_true hb
        have hd : decide (a2 ≤ (a0.size : Int) - a1) = false := decide_eq_false (by omega)
        have ha1 : 0 ≤ a1 := by omega
        clear c1 c2
        go_enter Tryd.func25, Tryd.ntmps25
        go_wp2_with (first | (go_at_call 33; (with_reducible refine (field_valid.calls a2 true _ A1.out).mono ?_); rintro e w' ⟨rfl, ⟨nd, rfl⟩⟩) | (go_at_call 34; refine (HRA.out _).mono ?_; rintro e w1 ⟨rfl, hb⟩) | (go_at_call 35; refine (calls_of_args (args' := #[.slice none ([] : List Int).length 0]) rfl (field_number.calls 1 none 0 [] 0 _ (Kd.C_nil _ _) (Nat.zero_le _) field_Get.number_nil)).mono ?_; rintro e w2 ⟨rfl, ⟨nd2, rfl⟩⟩))
        go_ret2
        exact ⟨rfl, pw_below_drewN (below_step (pw_below_drewN (Below.refl _ _) _) hb) _⟩
      · have hc : decide (a1 ≤ (a0.size : Int)) = false := decide_eq_false hb
        clear c1 c2 hb
        go_enter Tryd.func25, Tryd.ntmps25
        go_wp2_with (first | (go_at_call 33; (with_reducible refine (field_valid.calls a2 true _ A1.out).mono ?_); rintro e w' ⟨rfl, ⟨nd, rfl⟩⟩) | (go_at_call 34; refine (HRA.out _).mono ?_; rintro e w1 ⟨rfl, hb⟩) | (go_at_call 35; refine (calls_of_args (args' := #[.slice none ([] : List Int).length 0]) rfl (field_number.calls 1 none 0 [] 0 _ (Kd.C_nil _ _) (Nat.zero_le _) field_Get.number_nil)).mono ?_; rintro e w2 ⟨rfl, ⟨nd2, rfl⟩⟩))
        go_ret2
        exact ⟨rfl, pw_below_drewN (below_step (pw_below_drewN (Below.refl _ _) _) hb) _⟩
    · rw [if_neg c2] at h
      replace h := Option.bind_eq_some_iff.mp h
      obtain ⟨t, A20, h⟩ := h
      simp only [Option.some.injEq, Prod.mk.injEq] at h
      obtain ⟨rfl, rfl⟩ := h
      have A2 := Aside0.mk A20
      clear A20
      have hc : decide (a1 ≤ (a0.size : Int)) = true := decide_eq_true (by omega)
      have hd : decide (a2 ≤ (a0.size : Int) - a1) = true := decide_eq_true (by omega)
      have h1 : 0 ≤ a1 := by omega
      have h2 : a1 ≤ a1 + a2 := by omega
      have h3 : a1 + a2 ≤ (a0.size : Int) := by omega
      have h4 : a1 ≤ (a0.size : Int) := by omega
      have HX := Aside0.mk (show (((a0.extract a1.toNat (a1 + a2).toNat).size : Nat) : Int) = a2 by rw [ByteArray.size_extract]; omega)
      have h5 : 1 ≤ a2 := by omega
      have h6 : a2 ≤ 7 := by omega
      have HW := Aside0.mk (fun W => field_part.whole (a0.extract a1.toNat (a1 + a2).toNat) a2 W (by omega) (by omega) HX.out)
      clear c1 c2
      go_enter Tryd.func25, Tryd.ntmps25
      go_wp2_with (first | (go_at_call 33; (with_reducible refine (field_valid.calls a2 true _ A1.out).mono ?_); rintro e w' ⟨rfl, ⟨nd, rfl⟩⟩) | (go_at_call 34; refine (HW.out _).mono ?_; rintro e w1 ⟨W1, rfl, hb, rfl⟩) | (go_at_call 35; refine (calls_of_args (args' := #[.slice (some ⟨W1.heap.size, 0, none⟩) (bytesOf (a0.extract a1.toNat (a1 + a2).toNat)).length (a0.extract a1.toNat (a1 + a2).toNat).size]) (by rw [bytesOf_length, show (a0.extract a1.toNat (a1 + a2).toNat).size = (a1 + a2).toNat - a1.toNat from by rw [ByteArray.size_extract]; omega]) (field_number.calls k _ _ (bytesOf (a0.extract a1.toNat (a1 + a2).toNat)) t _ (Kd.C_of_reads (d := (0 : Int)) (h1 := fun _ => rfl) (by rw [bytesOf_length]; exact bytes_reads W1 5 _ (by have := HX.out; omega))) (by rw [bytesOf_length]; exact Nat.le_refl _) A2.out)).mono ?_; rintro e w2 ⟨rfl, ⟨nd2, rfl⟩⟩))
      go_ret2
      exact ⟨rfl, pw_below_drewN (bytes_below (below_step (pw_below_drewN (Below.refl _ _) _) hb) (below_size (below_step (pw_below_drewN (Below.refl _ _) _) hb)) 5 _) _⟩

/-! ### intrusionlaw02_ChecksumDetects: function 9 -/
mutual
def intrusionlaw02_ChecksumDetects.j0 : Nat → ByteArray → Int → Int → Bool → Option (Bool)
  | 0, _, _, _, _ => none
  | k + 1, x0, x1, x2, x26 => if x26 = true then ((intrusionlaw02_awake.f k).bind fun t211 => (some t211)) else ((field_Get.f k x0 (wrap64 (2 * x1)) 2).bind fun bt212 => (if bt212.2 = 0 then (if 0 ≤ (wrap64 (2 * x1)) then (if (wrap64 (2 * x1)) ≤ (x0.size : Int) then ((field_Put.f k (wrap64 (x2)) 2).bind fun t214 => (if (x0.extract 0 ((wrap64 (2 * x1)) : Int).toNat).size + t214.size ≤ 9223372036854775807 then (if 0 ≤ (wrap64 ((wrap64 (2 * x1)) + 2)) then (if (wrap64 ((wrap64 (2 * x1)) + 2)) ≤ (x0.size : Int) then (if ((x0.extract 0 ((wrap64 (2 * x1)) : Int).toNat) ++ t214).size + (x0.extract ((wrap64 ((wrap64 (2 * x1)) + 2)) : Int).toNat x0.size).size ≤ 9223372036854775807 then ((checksum_Sum.f k x0).bind fun t215 => ((checksum_Sum.f k (((x0.extract 0 ((wrap64 (2 * x1)) : Int).toNat) ++ t214) ++ (x0.extract ((wrap64 ((wrap64 (2 * x1)) + 2)) : Int).toNat x0.size))).bind fun t216 => (if (Int.tmod (wrap64 (bt212.1 - (wrap64 (x2)))) 65535) = 0 then (if t215 < 0 then (intrusionlaw02_ChecksumDetects.j1 k bt212.1 (wrap64 (x2)) t215 t216 true) else (intrusionlaw02_ChecksumDetects.j1 k bt212.1 (wrap64 (x2)) t215 t216 (decide (t215 > 65535)))) else (if t215 = t216 then (intrusionlaw02_ChecksumDetects.j1 k bt212.1 (wrap64 (x2)) t215 t216 true) else (if t215 < 0 then (intrusionlaw02_ChecksumDetects.j1 k bt212.1 (wrap64 (x2)) t215 t216 true) else (intrusionlaw02_ChecksumDetects.j1 k bt212.1 (wrap64 (x2)) t215 t216 (decide (t215 > 65535)))))))) else (none)) else (none)) else (none)) else (none))) else (none)) else (none)) else (some false)))
def intrusionlaw02_ChecksumDetects.j1 : Nat → Int → Int → Int → Int → Bool → Option (Bool)
  | 0, _, _, _, _, _ => none
  | k + 1, x7, x9, x11, x12, x73 => if x73 = true then (some false) else ((checksum_Update.f x11 x7 x9).bind fun t217 => (if t217 = x12 then ((intrusionlaw02_awake.f k).bind fun t218 => (some t218)) else (if (wrap64 (t217 + x12)) = 65535 then (if (wrap64 (t217 * x12)) = 0 then ((intrusionlaw02_awake.f k).bind fun t219 => (some t219)) else (some false)) else (some false))))
end
def intrusionlaw02_ChecksumDetects.f (k : Nat) (a0 : ByteArray) (a1 : Int) (a2 : Int) : Option (Bool) := (intrusionlaw02_long.f a0).bind fun t210 => (if t210 = true then (intrusionlaw02_ChecksumDetects.j0 k a0 a1 a2 true) else (if a1 < 0 then (intrusionlaw02_ChecksumDetects.j0 k a0 a1 a2 true) else (intrusionlaw02_ChecksumDetects.j0 k a0 a1 a2 (decide (a1 ≥ (wrap64 ((a0.size : Int) / 2)))))))
theorem intrusionlaw02_ChecksumDetects.mono_l : ∀ k, (∀ y0 y1 y2 y3, LeO (intrusionlaw02_ChecksumDetects.j0 k y0 y1 y2 y3) (intrusionlaw02_ChecksumDetects.j0 (k + 1) y0 y1 y2 y3)) ∧ (∀ y0 y1 y2 y3 y4, LeO (intrusionlaw02_ChecksumDetects.j1 k y0 y1 y2 y3 y4) (intrusionlaw02_ChecksumDetects.j1 (k + 1) y0 y1 y2 y3 y4))
  | 0 => ⟨fun _ _ _ _ r h => by simp [intrusionlaw02_ChecksumDetects.j0] at h, fun _ _ _ _ _ r h => by simp [intrusionlaw02_ChecksumDetects.j1] at h⟩
  | k + 1 => by
    obtain ⟨ih0, ih1⟩ := intrusionlaw02_ChecksumDetects.mono_l k
    refine ⟨?_, ?_⟩
    · intro y0 y1 y2 y3
      unfold intrusionlaw02_ChecksumDetects.j0
      repeat' first
      | (with_reducible exact ih0 _ _ _ _)
      | (with_reducible exact ih1 _ _ _ _ _)
      | (with_reducible exact checksum_Sum.mono _ _)
      | (with_reducible exact field_Get.mono _ _ _ _)
      | (with_reducible exact field_Put.mono _ _ _)
      | (with_reducible exact intrusionlaw02_awake.mono _)
      | (with_reducible exact LeO.refl _)
      | (with_reducible exact LeO.none _)
      | (with_reducible refine LeO.ite ?_ ?_)
      | (with_reducible refine LeO.bind ?_ (fun _ => ?_))
      | exact ih0 _ _ _ _
      | exact ih1 _ _ _ _ _
      | exact checksum_Sum.mono _ _
      | exact field_Get.mono _ _ _ _
      | exact field_Put.mono _ _ _
      | exact intrusionlaw02_awake.mono _
      | exact LeO.none _
      | refine LeO.ite ?_ ?_
      | refine LeO.bind ?_ (fun _ => ?_)
    · intro y0 y1 y2 y3 y4
      unfold intrusionlaw02_ChecksumDetects.j1
      repeat' first
      | (with_reducible exact ih0 _ _ _ _)
      | (with_reducible exact ih1 _ _ _ _ _)
      | (with_reducible exact checksum_Sum.mono _ _)
      | (with_reducible exact field_Get.mono _ _ _ _)
      | (with_reducible exact field_Put.mono _ _ _)
      | (with_reducible exact intrusionlaw02_awake.mono _)
      | (with_reducible exact LeO.refl _)
      | (with_reducible exact LeO.none _)
      | (with_reducible refine LeO.ite ?_ ?_)
      | (with_reducible refine LeO.bind ?_ (fun _ => ?_))
      | exact ih0 _ _ _ _
      | exact ih1 _ _ _ _ _
      | exact checksum_Sum.mono _ _
      | exact field_Get.mono _ _ _ _
      | exact field_Put.mono _ _ _
      | exact intrusionlaw02_awake.mono _
      | exact LeO.none _
      | refine LeO.ite ?_ ?_
      | refine LeO.bind ?_ (fun _ => ?_)
theorem intrusionlaw02_ChecksumDetects.mono : ∀ a0 a1 a2 k, LeO (intrusionlaw02_ChecksumDetects.f k a0 a1 a2) (intrusionlaw02_ChecksumDetects.f (k + 1) a0 a1 a2) := by
  intro a0 a1 a2 k
  obtain ⟨ih0, ih1⟩ := intrusionlaw02_ChecksumDetects.mono_l k
  unfold intrusionlaw02_ChecksumDetects.f
  repeat' first
      | (with_reducible exact ih0 _ _ _ _)
      | (with_reducible exact ih1 _ _ _ _ _)
      | (with_reducible exact checksum_Sum.mono _ _)
      | (with_reducible exact field_Get.mono _ _ _ _)
      | (with_reducible exact field_Put.mono _ _ _)
      | (with_reducible exact intrusionlaw02_awake.mono _)
      | (with_reducible exact LeO.refl _)
      | (with_reducible exact LeO.none _)
      | (with_reducible refine LeO.ite ?_ ?_)
      | (with_reducible refine LeO.bind ?_ (fun _ => ?_))
      | exact ih0 _ _ _ _
      | exact ih1 _ _ _ _ _
      | exact checksum_Sum.mono _ _
      | exact field_Get.mono _ _ _ _
      | exact field_Put.mono _ _ _
      | exact intrusionlaw02_awake.mono _
      | exact LeO.none _
      | refine LeO.ite ?_ ?_
      | refine LeO.bind ?_ (fun _ => ?_)
def intrusionlaw02_ChecksumDetects.T7 : Bool × List (List Nat × List Nat) := (true, [([], []), ([], []), ([1], [1]), ([0, 2], [0, 2]), ([], []), ([4], [4]), ([3, 5], [3, 5]), ([], []), ([], []), ([8], [8]), ([9], [9]), ([7, 10], [7, 10]), ([6, 11], [6, 11]), ([12, 5, 0, 1, 2, 3, 4, 5, 6, 7, 8, 9, 10, 11, 12], [12])])
def intrusionlaw02_ChecksumDetects.B7 : List Nat := [0, 0, 2, 7, 0, 16, 63, 0, 0, 256, 768, 1920, 4095, 8191]
theorem intrusionlaw02_ChecksumDetects.tab7 : rtab .any (opsOf Tryd.f9 7) = intrusionlaw02_ChecksumDetects.T7 := by kernel_rfl
theorem intrusionlaw02_ChecksumDetects.bits7 : waitsOk intrusionlaw02_ChecksumDetects.T7.2 intrusionlaw02_ChecksumDetects.B7 = true := by kernel_rfl
set_option maxHeartbeats 8000000 in
set_option maxRecDepth 100000 in
theorem intrusionlaw02_ChecksumDetects.calls (k : Nat) (a0 : ByteArray) (a1 : Int) (a2 : Int) (r : Bool) (w : World) (hLd : Laid w) (h : intrusionlaw02_ChecksumDetects.f k a0 a1 a2 = some r) :
    Calls Tryd.prog 9 #[.string a0, .int .i64 a1, .int .u16 a2] w fun e w' => e = .returned (.bool r) ∧ Below w.heap.size w w' := by
  have HLD := Aside0.mk hLd
  clear hLd
  have HB := Aside0.mk (Below.refl w.heap.size w)
  have H : ((intrusionlaw02_long.f a0).bind fun t210 => (if t210 = true then (intrusionlaw02_ChecksumDetects.j0 k a0 a1 a2 true) else (if a1 < 0 then (intrusionlaw02_ChecksumDetects.j0 k a0 a1 a2 true) else (intrusionlaw02_ChecksumDetects.j0 k a0 a1 a2 (decide (a1 ≥ (wrap64 ((a0.size : Int) / 2)))))))) = some r := h
  clear h
  have HC4 := Aside0.mk H
  clear H
  go_enter Tryd.func9, Tryd.ntmps9
  go_upto_region 1 with (fail)
  go_cut [26] (fun v26 wc => ∃ (kq : Nat) (x26_3 : Bool), v26 = .bool x26_3 ∧ Aside0 (intrusionlaw02_ChecksumDetects.j0 kq a0 a1 a2 x26_3 = some r) ∧ Aside0 (kq ≤ k) ∧ Aside0 (Below w.heap.size w wc))
  case first =>
    have H := HC4.out
    clear HC4
    replace H := Option.bind_eq_some_iff.mp H
    obtain ⟨t210, A50, H⟩ := H
    replace H : (if t210 = true then (intrusionlaw02_ChecksumDetects.j0 k a0 a1 a2 true) else (if a1 < 0 then (intrusionlaw02_ChecksumDetects.j0 k a0 a1 a2 true) else (intrusionlaw02_ChecksumDetects.j0 k a0 a1 a2 (decide (a1 ≥ (wrap64 ((a0.size : Int) / 2))))))) = some r := H
    have A5 := Aside0.mk A50
    clear A50
    by_cases c6 : t210 = true
    · subst c6
      have H1 : (intrusionlaw02_ChecksumDetects.j0 k a0 a1 a2 true) = some r := by rw [if_pos rfl] at H; exact H
      clear H
      have H := H1
      clear H1
      have H' := Aside0.mk H
      clear H
      go_wp2_with (first | ((with_reducible refine gate_callee (f := 10) rfl ?_); refine goesL_ (some 15) rfl rfl Tryd.func10 (by kernel_rfl) rfl #[.string a0] rfl (by (try simp only [List.map_toArray, List.map_cons, List.map_nil]); first | done | rfl | (simp only [List.length_drop, List.length_take]; rfl)) ?_; (with_reducible refine (intrusionlaw02_long.calls a0 true _ A5.out).mono ?_); rintro e w' ⟨rfl, ⟨nd, rfl⟩⟩; refine ⟨_, rfl, ?_⟩))
      go_meet
      case rel => exact ⟨_, (true), (by first | rfl | (simp; done) | (simp [*]; done)), H', ⟨by first | omega | exact Nat.le_refl _⟩, ⟨by repeat (first | (with_reducible first | exact HB.out | apply below_alloc | apply pw_below_drewN | apply below_drew1) | exact HB.out)⟩⟩
    · replace c6 := Bool.eq_false_iff.mpr c6
      subst c6
      have H1 : (if a1 < 0 then (intrusionlaw02_ChecksumDetects.j0 k a0 a1 a2 true) else (intrusionlaw02_ChecksumDetects.j0 k a0 a1 a2 (decide (a1 ≥ (wrap64 ((a0.size : Int) / 2)))))) = some r := by rw [if_neg (show ¬ (false = true) by decide)] at H; exact H
      clear H
      have H := H1
      clear H1
      by_cases c7 : a1 < 0
      · rw [if_pos c7] at H
        have c7b0 : decide (a1 < 0) = true := decide_eq_true c7
        clear c7
        (first | rw [c7b0] | (simp only [i64_w, i32_w]; rw [c7b0]) | skip)
        have H' := Aside0.mk H
        clear H
        go_wp2_with (first | ((with_reducible refine gate_callee (f := 10) rfl ?_); refine goesL_ (some 15) rfl rfl Tryd.func10 (by kernel_rfl) rfl #[.string a0] rfl (by (try simp only [List.map_toArray, List.map_cons, List.map_nil]); first | done | rfl | (simp only [List.length_drop, List.length_take]; rfl)) ?_; (with_reducible refine (intrusionlaw02_long.calls a0 false _ A5.out).mono ?_); rintro e w' ⟨rfl, ⟨nd, rfl⟩⟩; refine ⟨_, rfl, ?_⟩))
        go_meet
        case rel => exact ⟨_, (true), (by first | rfl | (simp; done) | (simp [*]; done)), H', ⟨by first | omega | exact Nat.le_refl _⟩, ⟨by repeat (first | (with_reducible first | exact HB.out | apply below_alloc | apply pw_below_drewN | apply below_drew1) | exact HB.out)⟩⟩
      · rw [if_neg c7] at H
        have c7b0 : decide (a1 < 0) = false := decide_eq_false c7
        clear c7
        (first | rw [c7b0] | (simp only [i64_w, i32_w]; rw [c7b0]) | skip)
        have H' := Aside0.mk H
        clear H
        go_wp2_with (first | ((with_reducible refine gate_callee (f := 10) rfl ?_); refine goesL_ (some 15) rfl rfl Tryd.func10 (by kernel_rfl) rfl #[.string a0] rfl (by (try simp only [List.map_toArray, List.map_cons, List.map_nil]); first | done | rfl | (simp only [List.length_drop, List.length_take]; rfl)) ?_; (with_reducible refine (intrusionlaw02_long.calls a0 false _ A5.out).mono ?_); rintro e w' ⟨rfl, ⟨nd, rfl⟩⟩; refine ⟨_, rfl, ?_⟩))
        go_meet
        case rel => exact ⟨_, (decide (a1 ≥ (wrap64 ((a0.size : Int) / 2)))), (by first | rfl | (simp; done) | (simp [*]; done)), H', ⟨by first | omega | exact Nat.le_refl _⟩, ⟨by repeat (first | (with_reducible first | exact HB.out | apply below_alloc | apply pw_below_drewN | apply below_drew1) | exact HB.out)⟩⟩
  case rest =>
    clear HC4
    try clear c1
    try clear p2
    try clear c6
    try clear p6
    try clear c7
    try clear c7b0
    obtain ⟨kq, x26_3, rfl, HA, HJ3, HB⟩ := hcut
    cases kq with
    | zero => exact absurd HA.out (by simp [intrusionlaw02_ChecksumDetects.j0])
    | succ kj3 =>
      have H := HA.out
      clear HA
      simp only [intrusionlaw02_ChecksumDetects.j0] at H
      by_cases c8 : x26_3 = true
      · subst c8
        have H1 : ((intrusionlaw02_awake.f kj3).bind fun t211 => (some t211)) = some r := by rw [if_pos rfl] at H; exact H
        clear H
        have H := H1
        clear H1
        replace H := Option.bind_eq_some_iff.mp H
        obtain ⟨t211, A90, H⟩ := H
        replace H : (some t211) = some r := H
        have A9 := Aside0.mk A90
        clear A90
        obtain rfl := Option.some.inj H
        go_wp2_with (first | ((with_reducible refine gate_callee (f := 11) rfl ?_); refine goesL_ (some 27) rfl rfl Tryd.func11 (by kernel_rfl) rfl #[] rfl (by (try simp only [List.map_toArray, List.map_cons, List.map_nil]); first | done | rfl | (simp only [List.length_drop, List.length_take]; rfl)) ?_; (with_reducible refine (intrusionlaw02_awake.calls kj3  t211 _ ?side1 A9.out).mono ?_); (case side1 => exact laid_below HLD.out (by repeat (first | (with_reducible first | exact HB.out | apply below_alloc | apply pw_below_drewN | apply below_drew1) | exact HB.out))); rintro e w10 ⟨rfl, hb⟩; refine ⟨_, rfl, ?_⟩; have n0_ := Aside0.mk (below_step (by repeat (first | (with_reducible first | exact HB.out | apply below_alloc | apply pw_below_drewN | apply below_drew1) | exact HB.out)) hb); clear HB; have HB := n0_; clear n0_; (try clear hb); (try clear hb2); (try clear hk); (try clear hi)))
        go_ret
        exact ⟨by first | rfl | (simp [errW_none, errW_some] <;> rfl) | (simp [*, errW_none, errW_some] <;> rfl), by repeat (first | (with_reducible first | exact HB.out | apply below_alloc | apply pw_below_drewN | apply below_drew1) | exact HB.out)⟩
      · replace c8 := Bool.eq_false_iff.mpr c8
        subst c8
        have H1 : ((field_Get.f kj3 a0 (wrap64 (2 * a1)) 2).bind fun bt212 => (if bt212.2 = 0 then (if 0 ≤ (wrap64 (2 * a1)) then (if (wrap64 (2 * a1)) ≤ (a0.size : Int) then ((field_Put.f kj3 (wrap64 (a2)) 2).bind fun t214 => (if (a0.extract 0 ((wrap64 (2 * a1)) : Int).toNat).size + t214.size ≤ 9223372036854775807 then (if 0 ≤ (wrap64 ((wrap64 (2 * a1)) + 2)) then (if (wrap64 ((wrap64 (2 * a1)) + 2)) ≤ (a0.size : Int) then (if ((a0.extract 0 ((wrap64 (2 * a1)) : Int).toNat) ++ t214).size + (a0.extract ((wrap64 ((wrap64 (2 * a1)) + 2)) : Int).toNat a0.size).size ≤ 9223372036854775807 then ((checksum_Sum.f kj3 a0).bind fun t215 => ((checksum_Sum.f kj3 (((a0.extract 0 ((wrap64 (2 * a1)) : Int).toNat) ++ t214) ++ (a0.extract ((wrap64 ((wrap64 (2 * a1)) + 2)) : Int).toNat a0.size))).bind fun t216 => (if (Int.tmod (wrap64 (bt212.1 - (wrap64 (a2)))) 65535) = 0 then (if t215 < 0 then (intrusionlaw02_ChecksumDetects.j1 kj3 bt212.1 (wrap64 (a2)) t215 t216 true) else (intrusionlaw02_ChecksumDetects.j1 kj3 bt212.1 (wrap64 (a2)) t215 t216 (decide (t215 > 65535)))) else (if t215 = t216 then (intrusionlaw02_ChecksumDetects.j1 kj3 bt212.1 (wrap64 (a2)) t215 t216 true) else (if t215 < 0 then (intrusionlaw02_ChecksumDetects.j1 kj3 bt212.1 (wrap64 (a2)) t215 t216 true) else (intrusionlaw02_ChecksumDetects.j1 kj3 bt212.1 (wrap64 (a2)) t215 t216 (decide (t215 > 65535)))))))) else (none)) else (none)) else (none)) else (none))) else (none)) else (none)) else (some false))) = some r := by rw [if_neg (show ¬ (false = true) by decide)] at H; exact H
        clear H
        have H := H1
        clear H1
        replace H := Option.bind_eq_some_iff.mp H
        obtain ⟨⟨t212, t213⟩, A110, H⟩ := H
        replace H : (if t213 = 0 then (if 0 ≤ (wrap64 (2 * a1)) then (if (wrap64 (2 * a1)) ≤ (a0.size : Int) then ((field_Put.f kj3 (wrap64 (a2)) 2).bind fun t214 => (if (a0.extract 0 ((wrap64 (2 * a1)) : Int).toNat).size + t214.size ≤ 9223372036854775807 then (if 0 ≤ (wrap64 ((wrap64 (2 * a1)) + 2)) then (if (wrap64 ((wrap64 (2 * a1)) + 2)) ≤ (a0.size : Int) then (if ((a0.extract 0 ((wrap64 (2 * a1)) : Int).toNat) ++ t214).size + (a0.extract ((wrap64 ((wrap64 (2 * a1)) + 2)) : Int).toNat a0.size).size ≤ 9223372036854775807 then ((checksum_Sum.f kj3 a0).bind fun t215 => ((checksum_Sum.f kj3 (((a0.extract 0 ((wrap64 (2 * a1)) : Int).toNat) ++ t214) ++ (a0.extract ((wrap64 ((wrap64 (2 * a1)) + 2)) : Int).toNat a0.size))).bind fun t216 => (if (Int.tmod (wrap64 (t212 - (wrap64 (a2)))) 65535) = 0 then (if t215 < 0 then (intrusionlaw02_ChecksumDetects.j1 kj3 t212 (wrap64 (a2)) t215 t216 true) else (intrusionlaw02_ChecksumDetects.j1 kj3 t212 (wrap64 (a2)) t215 t216 (decide (t215 > 65535)))) else (if t215 = t216 then (intrusionlaw02_ChecksumDetects.j1 kj3 t212 (wrap64 (a2)) t215 t216 true) else (if t215 < 0 then (intrusionlaw02_ChecksumDetects.j1 kj3 t212 (wrap64 (a2)) t215 t216 true) else (intrusionlaw02_ChecksumDetects.j1 kj3 t212 (wrap64 (a2)) t215 t216 (decide (t215 > 65535)))))))) else (none)) else (none)) else (none)) else (none))) else (none)) else (none)) else (some false)) = some r := H
        have A11 := Aside0.mk A110
        clear A110
        by_cases c12 : t213 = 0
        · rw [if_pos c12] at H
          have c12b0 : (t213 == 0) = true := beq_iff_eq.mpr c12
          have c12b1 : (t213 != 0) = false := bne_eq_false_iff_eq.mpr c12
          clear c12
          obtain ⟨ji13, hji13⟩ : ∃ j_ : Int, (wrap64 (2 * a1)) = j_ := ⟨_, rfl⟩
          replace H : (if 0 ≤ (ji13) then (if (ji13) ≤ (a0.size : Int) then ((field_Put.f kj3 (wrap64 (a2)) 2).bind fun t214 => (if (a0.extract 0 ((ji13) : Int).toNat).size + t214.size ≤ 9223372036854775807 then (if 0 ≤ (wrap64 ((ji13) + 2)) then (if (wrap64 ((ji13) + 2)) ≤ (a0.size : Int) then (if ((a0.extract 0 ((ji13) : Int).toNat) ++ t214).size + (a0.extract ((wrap64 ((ji13) + 2)) : Int).toNat a0.size).size ≤ 9223372036854775807 then ((checksum_Sum.f kj3 a0).bind fun t215 => ((checksum_Sum.f kj3 (((a0.extract 0 ((ji13) : Int).toNat) ++ t214) ++ (a0.extract ((wrap64 ((ji13) + 2)) : Int).toNat a0.size))).bind fun t216 => (if (Int.tmod (wrap64 (t212 - (wrap64 (a2)))) 65535) = 0 then (if t215 < 0 then (intrusionlaw02_ChecksumDetects.j1 kj3 t212 (wrap64 (a2)) t215 t216 true) else (intrusionlaw02_ChecksumDetects.j1 kj3 t212 (wrap64 (a2)) t215 t216 (decide (t215 > 65535)))) else (if t215 = t216 then (intrusionlaw02_ChecksumDetects.j1 kj3 t212 (wrap64 (a2)) t215 t216 true) else (if t215 < 0 then (intrusionlaw02_ChecksumDetects.j1 kj3 t212 (wrap64 (a2)) t215 t216 true) else (intrusionlaw02_ChecksumDetects.j1 kj3 t212 (wrap64 (a2)) t215 t216 (decide (t215 > 65535)))))))) else (none)) else (none)) else (none)) else (none))) else (none)) else (none)) = some r := by first | (rw [hji13] at H; exact H) | (simp only [hji13] at H ⊢; exact H)
          (try rw [hji13] at A11)
          have hji13w : (IntKind.i64.wrap (2 * a1)) = ji13 := (i64_w _).trans hji13
          by_cases c14 : 0 ≤ (ji13)
          · rw [if_pos c14] at H
            have c14b0 := eq_true c14
            have c14b1 : decide (0 ≤ (ji13)) = true := decide_eq_true c14
            clear c14
            by_cases c15 : (ji13) ≤ (a0.size : Int)
            · rw [if_pos c15] at H
              have c15b0 := eq_true c15
              have c15b1 : decide ((ji13) ≤ (a0.size : Int)) = true := decide_eq_true c15
              clear c15
              replace H := Option.bind_eq_some_iff.mp H
              obtain ⟨t214, A160, H⟩ := H
              replace H : (if (a0.extract 0 ((ji13) : Int).toNat).size + t214.size ≤ 9223372036854775807 then (if 0 ≤ (wrap64 ((ji13) + 2)) then (if (wrap64 ((ji13) + 2)) ≤ (a0.size : Int) then (if ((a0.extract 0 ((ji13) : Int).toNat) ++ t214).size + (a0.extract ((wrap64 ((ji13) + 2)) : Int).toNat a0.size).size ≤ 9223372036854775807 then ((checksum_Sum.f kj3 a0).bind fun t215 => ((checksum_Sum.f kj3 (((a0.extract 0 ((ji13) : Int).toNat) ++ t214) ++ (a0.extract ((wrap64 ((ji13) + 2)) : Int).toNat a0.size))).bind fun t216 => (if (Int.tmod (wrap64 (t212 - (wrap64 (a2)))) 65535) = 0 then (if t215 < 0 then (intrusionlaw02_ChecksumDetects.j1 kj3 t212 (wrap64 (a2)) t215 t216 true) else (intrusionlaw02_ChecksumDetects.j1 kj3 t212 (wrap64 (a2)) t215 t216 (decide (t215 > 65535)))) else (if t215 = t216 then (intrusionlaw02_ChecksumDetects.j1 kj3 t212 (wrap64 (a2)) t215 t216 true) else (if t215 < 0 then (intrusionlaw02_ChecksumDetects.j1 kj3 t212 (wrap64 (a2)) t215 t216 true) else (intrusionlaw02_ChecksumDetects.j1 kj3 t212 (wrap64 (a2)) t215 t216 (decide (t215 > 65535)))))))) else (none)) else (none)) else (none)) else (none)) = some r := H
              have A16 := Aside0.mk A160
              clear A160
              by_cases c17 : (a0.extract 0 ((ji13) : Int).toNat).size + t214.size ≤ 9223372036854775807
              · rw [if_pos c17] at H
                have c17b0 := eq_true c17
                have c17b1 : decide ((a0.extract 0 ((ji13) : Int).toNat).size + t214.size ≤ 9223372036854775807) = true := decide_eq_true c17
                (try (have c17s0 : (9223372036854775807 < (((ji13) : Int).toNat) + t214.size) = False := by have h_ := c17; simp only [ByteArray.size_append, ByteArray.size_extract] at h_; exact eq_false (by first | omega | (have h2_0 : (((ji13) : Int) : Int) ≤ (a0.size : Int) := of_decide_eq_true (by first | (with_reducible assumption) | assumption); omega))))
                (try (have c17s1 : ((((ji13) : Int).toNat) + t214.size ≤ 9223372036854775807) = True := by have h_ := c17; simp only [ByteArray.size_append, Int.natCast_add, Int.toNat_natCast] at h_; first | exact eq_true h_ | exact eq_true (by omega)))
                (try (have c17s2 : decide ((((ji13) : Int).toNat) + t214.size ≤ 9223372036854775807) = true := by have h_ := c17; first | (simp only [ByteArray.size_append, Int.toNat_natCast] at h_; first | exact beq_iff_eq.mpr h_ | exact beq_eq_false_iff_ne.mpr h_ | exact bne_iff_ne.mpr h_ | exact bne_eq_false_iff_eq.mpr h_ | (rw [beq_iff_eq.mpr h_]; rfl) | (rw [beq_eq_false_iff_ne.mpr h_]; rfl)) | (simp only [ByteArray.size_append, Int.natCast_add, Int.toNat_natCast] at h_ ⊢; first | exact h_ | simpa using h_ | simp [h_] | omega) | (simp only [ByteArray.size_append] at h_; simp at h_ ⊢; omega) | (simp only [ByteArray.size_append, Int.natCast_add, Int.toNat_natCast] at h_; simpa using h_)))
                try have c17b2 : (9223372036854775807 < (a0.extract 0 ((ji13) : Int).toNat).size + t214.size) = False := eq_false (Nat.not_lt.2 c17)
                obtain ⟨ji18, hji18⟩ : ∃ j_ : Int, (wrap64 ((ji13) + 2)) = j_ := ⟨_, rfl⟩
                replace H : (if 0 ≤ (ji18) then (if (ji18) ≤ (a0.size : Int) then (if ((a0.extract 0 ((ji13) : Int).toNat) ++ t214).size + (a0.extract ((ji18) : Int).toNat a0.size).size ≤ 9223372036854775807 then ((checksum_Sum.f kj3 a0).bind fun t215 => ((checksum_Sum.f kj3 (((a0.extract 0 ((ji13) : Int).toNat) ++ t214) ++ (a0.extract ((ji18) : Int).toNat a0.size))).bind fun t216 => (if (Int.tmod (wrap64 (t212 - (wrap64 (a2)))) 65535) = 0 then (if t215 < 0 then (intrusionlaw02_ChecksumDetects.j1 kj3 t212 (wrap64 (a2)) t215 t216 true) else (intrusionlaw02_ChecksumDetects.j1 kj3 t212 (wrap64 (a2)) t215 t216 (decide (t215 > 65535)))) else (if t215 = t216 then (intrusionlaw02_ChecksumDetects.j1 kj3 t212 (wrap64 (a2)) t215 t216 true) else (if t215 < 0 then (intrusionlaw02_ChecksumDetects.j1 kj3 t212 (wrap64 (a2)) t215 t216 true) else (intrusionlaw02_ChecksumDetects.j1 kj3 t212 (wrap64 (a2)) t215 t216 (decide (t215 > 65535)))))))) else (none)) else (none)) else (none)) = some r := by first | (rw [hji18] at H; exact H) | (simp only [hji18] at H ⊢; exact H)
                (try rw [hji18] at A11)
                (try rw [hji18] at A16)
                have hji18w : (IntKind.i64.wrap ((ji13) + 2)) = ji18 := (i64_w _).trans hji18
                by_cases c19 : 0 ≤ (ji18)
                · rw [if_pos c19] at H
                  have c19b0 := eq_true c19
                  have c19b1 : decide (0 ≤ (ji18)) = true := decide_eq_true c19
                  clear c19
                  by_cases c20 : (ji18) ≤ (a0.size : Int)
                  · rw [if_pos c20] at H
                    have c20b0 := eq_true c20
                    have c20b1 : decide ((ji18) ≤ (a0.size : Int)) = true := decide_eq_true c20
                    clear c20
                    by_cases c21 : ((a0.extract 0 ((ji13) : Int).toNat) ++ t214).size + (a0.extract ((ji18) : Int).toNat a0.size).size ≤ 9223372036854775807
                    · rw [if_pos c21] at H
                      have c21b0 := eq_true c21
                      have c21b1 : decide (((a0.extract 0 ((ji13) : Int).toNat) ++ t214).size + (a0.extract ((ji18) : Int).toNat a0.size).size ≤ 9223372036854775807) = true := decide_eq_true c21
                      (try (have c21s0 : (9223372036854775807 < (((ji13) : Int).toNat + t214.size) + ((a0.size - ((ji18) : Int).toNat))) = False := by have h_ := c21; simp only [ByteArray.size_append, ByteArray.size_extract] at h_; exact eq_false (by first | omega | (have h2_0 : (((ji13) : Int) : Int) ≤ (a0.size : Int) := of_decide_eq_true (by first | (with_reducible assumption) | assumption); omega))))
                      (try (have c21s1 : ((((ji13) : Int).toNat + t214.size) + ((a0.size - ((ji18) : Int).toNat)) ≤ 9223372036854775807) = True := by have h_ := c21; simp only [ByteArray.size_append, Int.natCast_add, Int.toNat_natCast] at h_; first | exact eq_true h_ | exact eq_true (by omega)))
                      (try (have c21s2 : decide ((((ji13) : Int).toNat + t214.size) + ((a0.size - ((ji18) : Int).toNat)) ≤ 9223372036854775807) = true := by have h_ := c21; first | (simp only [ByteArray.size_append, Int.toNat_natCast] at h_; first | exact beq_iff_eq.mpr h_ | exact beq_eq_false_iff_ne.mpr h_ | exact bne_iff_ne.mpr h_ | exact bne_eq_false_iff_eq.mpr h_ | (rw [beq_iff_eq.mpr h_]; rfl) | (rw [beq_eq_false_iff_ne.mpr h_]; rfl)) | (simp only [ByteArray.size_append, Int.natCast_add, Int.toNat_natCast] at h_ ⊢; first | exact h_ | simpa using h_ | simp [h_] | omega) | (simp only [ByteArray.size_append] at h_; simp at h_ ⊢; omega) | (simp only [ByteArray.size_append, Int.natCast_add, Int.toNat_natCast] at h_; simpa using h_)))
                      try have c21b2 : (9223372036854775807 < ((a0.extract 0 ((ji13) : Int).toNat) ++ t214).size + (a0.extract ((ji18) : Int).toNat a0.size).size) = False := eq_false (Nat.not_lt.2 c21)
                      replace H := Option.bind_eq_some_iff.mp H
                      obtain ⟨t215, A220, H⟩ := H
                      replace H : ((checksum_Sum.f kj3 (((a0.extract 0 ((ji13) : Int).toNat) ++ t214) ++ (a0.extract ((ji18) : Int).toNat a0.size))).bind fun t216 => (if (Int.tmod (wrap64 (t212 - (wrap64 (a2)))) 65535) = 0 then (if t215 < 0 then (intrusionlaw02_ChecksumDetects.j1 kj3 t212 (wrap64 (a2)) t215 t216 true) else (intrusionlaw02_ChecksumDetects.j1 kj3 t212 (wrap64 (a2)) t215 t216 (decide (t215 > 65535)))) else (if t215 = t216 then (intrusionlaw02_ChecksumDetects.j1 kj3 t212 (wrap64 (a2)) t215 t216 true) else (if t215 < 0 then (intrusionlaw02_ChecksumDetects.j1 kj3 t212 (wrap64 (a2)) t215 t216 true) else (intrusionlaw02_ChecksumDetects.j1 kj3 t212 (wrap64 (a2)) t215 t216 (decide (t215 > 65535))))))) = some r := H
                      have A22 := Aside0.mk A220
                      clear A220
                      replace H := Option.bind_eq_some_iff.mp H
                      obtain ⟨t216, A230, H⟩ := H
                      replace H : (if (Int.tmod (wrap64 (t212 - (wrap64 (a2)))) 65535) = 0 then (if t215 < 0 then (intrusionlaw02_ChecksumDetects.j1 kj3 t212 (wrap64 (a2)) t215 t216 true) else (intrusionlaw02_ChecksumDetects.j1 kj3 t212 (wrap64 (a2)) t215 t216 (decide (t215 > 65535)))) else (if t215 = t216 then (intrusionlaw02_ChecksumDetects.j1 kj3 t212 (wrap64 (a2)) t215 t216 true) else (if t215 < 0 then (intrusionlaw02_ChecksumDetects.j1 kj3 t212 (wrap64 (a2)) t215 t216 true) else (intrusionlaw02_ChecksumDetects.j1 kj3 t212 (wrap64 (a2)) t215 t216 (decide (t215 > 65535)))))) = some r := H
                      have A23 := Aside0.mk A230
                      clear A230
                      have HC24 := Aside0.mk H
                      clear H
                      try go_wp2_with (first | ((with_reducible refine gate_callee (f := 25) rfl ?_); refine goesL_ (some 32) rfl rfl Tryd.func25 (by kernel_rfl) rfl #[.string a0, .int .i64 ji13, .int .i64 2] rfl (by (try simp only [List.map_toArray, List.map_cons, List.map_nil]); first | done | (simp only [hji13]; rfl) | rfl | (simp only [List.length_drop, List.length_take]; rfl)) ?_; (with_reducible refine (field_Get.calls kj3 a0 ji13 2 t212 t213 _ A11.out).mono ?_); rintro e w25 ⟨rfl, hb⟩; refine ⟨_, rfl, ?_⟩; have n0_ := Aside0.mk (below_step (by repeat (first | (with_reducible first | exact HB.out | apply below_alloc | apply pw_below_drewN | apply below_drew1) | exact HB.out)) hb); clear HB; have HB := n0_; clear n0_; (try clear hb); (try clear hb2); (try clear hk); (try clear hi)))
                      have n0_ := Aside0.mk (below_drew1 HB.out)
                      clear HB
                      have HB := n0_
                      clear n0_
                      refine start_ (n := 14) (S := fun w' => True) (ds := []) #[false, false, false, false, false, false, false, false, false, false, false, false, false, false] (by kernel_rfl) rfl rfl trivial (fun hHeld => ?_); refine with_tabW intrusionlaw02_ChecksumDetects.tab7 intrusionlaw02_ChecksumDetects.bits7 (fun HT_ HW_ => ?_)
                      generalize w25.drew = w26 at HB hHeld ⊢
                      refine pure_ (i := 0) (N := some 39) (v := ?_) (a' := ?_) #[true, false, false, false, false, false, false, false, false, false, false, false, false, false] rfl rfl (any_of HT_.out (by kernel_rfl)) (fun _ _ _ h => h) (Or.inl ⟨by rfl, ?_⟩) ?_ ?_
                      rotate_left
                      · intro w'
                        go_simp
                        with_reducible rfl
                      rotate_left
                      · simp only [Act.put, List.setIfInBounds_toArray, List.set_cons_zero, List.set_cons_succ, i64_w, i32_w]
                        rfl
                      refine pure_ (i := 1) (N := some 40) (v := ?_) (a' := ?_) #[true, true, false, false, false, false, false, false, false, false, false, false, false, false] rfl rfl (any_of HT_.out (by kernel_rfl)) (fun _ _ _ h => h) (Or.inl ⟨by rfl, ?_⟩) ?_ ?_
                      rotate_left
                      · intro w'
                        go_simp
                        with_reducible rfl
                      rotate_left
                      · simp only [Act.put, List.setIfInBounds_toArray, List.set_cons_zero, List.set_cons_succ, i64_w, i32_w]
                        rfl
                      refine pure_ (i := 2) (N := some 41) (v := ?_) (a' := ?_) #[true, true, true, false, false, false, false, false, false, false, false, false, false, false] rfl rfl (any_of HT_.out (by kernel_rfl)) (fun _ _ _ h => h) (Or.inl ⟨by rfl, ?_⟩) ?_ ?_
                      rotate_left
                      · intro w'
                        go_simp
                        with_reducible rfl
                      rotate_left
                      · simp only [Act.put, List.setIfInBounds_toArray, List.set_cons_zero, List.set_cons_succ, i64_w, i32_w]
                        rfl
                      refine pure_ (i := 3) (N := some 42) (v := ?_) (a' := ?_) #[true, true, true, true, false, false, false, false, false, false, false, false, false, false] rfl rfl (any_of HT_.out (by kernel_rfl)) (fun _ _ _ h => h) (Or.inl ⟨by rfl, ?_⟩) ?_ ?_
                      rotate_left
                      · intro w'
                        go_simp
                        with_reducible rfl
                      rotate_left
                      · simp only [Act.put, List.setIfInBounds_toArray, List.set_cons_zero, List.set_cons_succ, i64_w, i32_w]
                        rfl
                      refine pure_ (i := 4) (N := some 43) (v := ?_) (a' := ?_) #[true, true, true, true, true, false, false, false, false, false, false, false, false, false] rfl rfl (any_of HT_.out (by kernel_rfl)) (fun _ _ _ h => h) (Or.inl ⟨by rfl, ?_⟩) ?_ ?_
                      rotate_left
                      · intro w'
                        go_simp
                        with_reducible rfl
                      rotate_left
                      · simp only [Act.put, List.setIfInBounds_toArray, List.set_cons_zero, List.set_cons_succ, i64_w, i32_w]
                        rfl
                      refine pure_ (i := 7) (N := some 46) (v := ?_) (a' := ?_) #[true, true, true, true, true, false, false, true, false, false, false, false, false, false] rfl rfl (any_of HT_.out (by kernel_rfl)) (fun _ _ _ h => h) (Or.inl ⟨by rfl, ?_⟩) ?_ ?_
                      rotate_left
                      · intro w'
                        go_simp
                        with_reducible rfl
                      rotate_left
                      · simp only [Act.put, List.setIfInBounds_toArray, List.set_cons_zero, List.set_cons_succ, i64_w, i32_w]
                        rfl
                      refine pure_ (i := 8) (N := some 47) (v := ?_) (a' := ?_) #[true, true, true, true, true, false, false, true, true, false, false, false, false, false] rfl rfl (any_of HT_.out (by kernel_rfl)) (fun _ _ _ h => h) (Or.inl ⟨by rfl, ?_⟩) ?_ ?_
                      rotate_left
                      · intro w'
                        go_simp
                        with_reducible rfl
                      rotate_left
                      · simp only [Act.put, List.setIfInBounds_toArray, List.set_cons_zero, List.set_cons_succ, i64_w, i32_w]
                        rfl
                      refine pure_ (i := 9) (N := some 48) (v := ?_) (a' := ?_) #[true, true, true, true, true, false, false, true, true, true, false, false, false, false] rfl rfl (any_of HT_.out (by kernel_rfl)) (fun _ _ _ h => h) (Or.inl ⟨by rfl, ?_⟩) ?_ ?_
                      rotate_left
                      · intro w'
                        go_simp
                        with_reducible rfl
                      rotate_left
                      · simp only [Act.put, List.setIfInBounds_toArray, List.set_cons_zero, List.set_cons_succ, i64_w, i32_w]
                        rfl
                      refine pure_ (i := 10) (N := some 49) (v := ?_) (a' := ?_) #[true, true, true, true, true, false, false, true, true, true, true, false, false, false] rfl rfl (any_of HT_.out (by kernel_rfl)) (fun _ _ _ h => h) (Or.inl ⟨by rfl, ?_⟩) ?_ ?_
                      rotate_left
                      · intro w'
                        go_simp
                        with_reducible rfl
                      rotate_left
                      · simp only [Act.put, List.setIfInBounds_toArray, List.set_cons_zero, List.set_cons_succ, i64_w, i32_w]
                        rfl
                      refine pure_ (i := 11) (N := some 50) (v := ?_) (a' := ?_) #[true, true, true, true, true, false, false, true, true, true, true, true, false, false] rfl rfl (any_of HT_.out (by kernel_rfl)) (fun _ _ _ h => h) (Or.inl ⟨by rfl, ?_⟩) ?_ ?_
                      rotate_left
                      · intro w'
                        go_simp
                        with_reducible rfl
                      rotate_left
                      · simp only [Act.put, List.setIfInBounds_toArray, List.set_cons_zero, List.set_cons_succ, i64_w, i32_w]
                        rfl
                      refine one_ (i := 5) (N := some 44) #[true, true, true, true, true, true, false, true, true, true, true, true, false, false] rfl rfl (one_of HT_.out (by kernel_rfl)) (by decide) (fun K hK => ?_)
                      refine goes_ Tryd.func24 (by kernel_rfl) rfl #[.int .i64 (wrap64 (a2)), .int .i64 2] (by rfl) rfl rfl (by (try simp only [List.map_toArray, List.map_cons, List.map_nil]); first | done | rfl | (simp only [List.length_drop, List.length_take]; rfl)) ?_
                      with_reducible refine (field_Put.calls kj3 (wrap64 (a2)) 2 t214 _ A16.out).mono ?_
                      rintro e w27 ⟨rfl, hb⟩
                      refine ⟨_, rfl, ?_⟩
                      have n0_ := Aside0.mk (below_step (by repeat (first | (with_reducible first | exact HB.out | apply below_alloc | apply pw_below_drewN | apply below_drew1) | exact HB.out)) hb)
                      clear HB
                      have HB := n0_
                      clear n0_
                      (try clear hb)
                      (try clear hb2)
                      (try clear hk)
                      (try clear hi)
                      refine hK.out _ _ trivial (fun hHeld => ?_)
                      clear hK K
                      refine norm_ (a' := ?_) ?_ ?_
                      rotate_left
                      · show Act.put _ (some 44) _ = _
                        simp only [Act.put, List.setIfInBounds_toArray, List.set_cons_zero, List.set_cons_succ, i64_w, i32_w]
                        rfl
                      refine pure_ (i := 6) (N := some 45) (v := ?_) (a' := ?_) #[true, true, true, true, true, true, true, true, true, true, true, true, false, false] rfl rfl (any_of HT_.out (by kernel_rfl)) (fun _ _ _ h => h) (Or.inl ⟨by rfl, ?_⟩) ?_ ?_
                      rotate_left
                      · intro w'
                        go_simp
                        with_reducible rfl
                      rotate_left
                      · simp only [Act.put, List.setIfInBounds_toArray, List.set_cons_zero, List.set_cons_succ, i64_w, i32_w]
                        rfl
                      refine pure_ (i := 12) (N := some 51) (v := ?_) (a' := ?_) #[true, true, true, true, true, true, true, true, true, true, true, true, true, false] rfl rfl (any_of HT_.out (by kernel_rfl)) (fun _ _ _ h => h) (Or.inl ⟨by rfl, ?_⟩) ?_ ?_
                      rotate_left
                      · intro w'
                        go_simp
                        with_reducible rfl
                      rotate_left
                      · simp only [Act.put, List.setIfInBounds_toArray, List.set_cons_zero, List.set_cons_succ, i64_w, i32_w]
                        rfl
                      refine pure_ (i := 13) (N := some 10) (v := ?_) (a' := ?_) #[true, true, true, true, true, true, true, true, true, true, true, true, true, true] rfl rfl (any_of HT_.out (by kernel_rfl)) (fun _ _ _ h => h) (Or.inl ⟨by rfl, ?_⟩) ?_ ?_
                      rotate_left
                      · intro w'
                        go_simp
                        with_reducible rfl
                      rotate_left
                      · simp only [Act.put, List.setIfInBounds_toArray, List.set_cons_zero, List.set_cons_succ, i64_w, i32_w]
                        rfl
                      refine done_ (done_of HT_.out (by kernel_rfl)) ?_
                      go_upto_region 9 with (first | ((with_reducible refine gate_callee (f := 12) rfl ?_); refine goesL_ (some 53) rfl rfl Tryd.func12 (by kernel_rfl) rfl #[.string a0] rfl (by (try simp only [List.map_toArray, List.map_cons, List.map_nil]); first | done | rfl | (simp only [List.length_drop, List.length_take]; rfl)) ?_; (with_reducible refine (checksum_Sum.calls kj3 a0 t215 _ A22.out).mono ?_); rintro e w' ⟨rfl, ⟨nd, rfl⟩⟩; refine ⟨_, rfl, ?_⟩) | ((with_reducible refine gate_callee (f := 12) rfl ?_); refine goesL_ (some 55) rfl rfl Tryd.func12 (by kernel_rfl) rfl #[.string (((a0.extract 0 ((ji13) : Int).toNat) ++ t214) ++ (a0.extract ((ji18) : Int).toNat a0.size))] rfl (by (try simp only [List.map_toArray, List.map_cons, List.map_nil]); first | done | (simp only [hji13, hji18]; rfl) | rfl | (simp only [List.length_drop, List.length_take]; rfl)) ?_; (with_reducible refine (checksum_Sum.calls kj3 (((a0.extract 0 ((ji13) : Int).toNat) ++ t214) ++ (a0.extract ((ji18) : Int).toNat a0.size)) t216 _ A23.out).mono ?_); rintro e w' ⟨rfl, ⟨nd, rfl⟩⟩; refine ⟨_, rfl, ?_⟩))
                      (try simp only [Act.put, List.setIfInBounds_toArray, List.set_cons_zero, List.set_cons_succ])
                      go_cut [73] (fun v73 wc => ∃ (kq : Nat) (x73_23 : Bool), v73 = .bool x73_23 ∧ Aside0 (intrusionlaw02_ChecksumDetects.j1 kq t212 (wrap64 (a2)) t215 t216 x73_23 = some r) ∧ Aside0 (kq ≤ kj3) ∧ Aside0 (Below w.heap.size w wc))
                      case first =>
                        have H := HC24.out
                        clear HC24
                        by_cases c28 : (Int.tmod (wrap64 (t212 - (wrap64 (a2)))) 65535) = 0
                        · rw [if_pos c28] at H
                          have c28b0 : ((Int.tmod (wrap64 (t212 - (wrap64 (a2)))) 65535) == 0) = true := beq_iff_eq.mpr c28
                          have c28b1 : ((Int.tmod (wrap64 (t212 - (wrap64 (a2)))) 65535) != 0) = false := bne_eq_false_iff_eq.mpr c28
                          clear c28
                          (first | rw [c28b0] | (simp only [i64_w, i32_w]; rw [c28b0]) | skip)
                          by_cases c29 : t215 < 0
                          · rw [if_pos c29] at H
                            have c29b0 : decide (t215 < 0) = true := decide_eq_true c29
                            clear c29
                            have H' := Aside0.mk H
                            clear H
                            go_wp2
                            go_meet
                            case rel => exact ⟨_, (true), (by first | rfl | (simp; done) | (simp [*]; done)), H', ⟨by have := HJ3.out; first | omega | exact Nat.le_refl _⟩, ⟨by repeat (first | (with_reducible first | exact HB.out | apply below_alloc | apply pw_below_drewN | apply below_drew1) | exact HB.out)⟩⟩
                          · rw [if_neg c29] at H
                            have c29b0 : decide (t215 < 0) = false := decide_eq_false c29
                            clear c29
                            have H' := Aside0.mk H
                            clear H
                            go_wp2
                            go_meet
                            case rel => exact ⟨_, (decide (t215 > 65535)), (by first | rfl | (simp; done) | (simp [*]; done)), H', ⟨by have := HJ3.out; first | omega | exact Nat.le_refl _⟩, ⟨by repeat (first | (with_reducible first | exact HB.out | apply below_alloc | apply pw_below_drewN | apply below_drew1) | exact HB.out)⟩⟩
                        · rw [if_neg c28] at H
                          have c28b0 : ((Int.tmod (wrap64 (t212 - (wrap64 (a2)))) 65535) == 0) = false := beq_eq_false_iff_ne.mpr c28
                          have c28b1 : ((Int.tmod (wrap64 (t212 - (wrap64 (a2)))) 65535) != 0) = true := bne_iff_ne.mpr c28
                          (first | rw [c28b0] | (simp only [i64_w, i32_w]; rw [c28b0]) | skip)
                          by_cases c30 : t215 = t216
                          · rw [if_pos c30] at H
                            have c30b0 : (t215 == t216) = true := beq_iff_eq.mpr c30
                            have c30b1 : (t215 != t216) = false := bne_eq_false_iff_eq.mpr c30
                            clear c30
                            have H' := Aside0.mk H
                            clear H
                            go_wp2
                            go_meet
                            case rel => exact ⟨_, (true), (by first | rfl | (simp; done) | (simp [*]; done)), H', ⟨by have := HJ3.out; first | omega | exact Nat.le_refl _⟩, ⟨by repeat (first | (with_reducible first | exact HB.out | apply below_alloc | apply pw_below_drewN | apply below_drew1) | exact HB.out)⟩⟩
                          · rw [if_neg c30] at H
                            have c30b0 : (t215 == t216) = false := beq_eq_false_iff_ne.mpr c30
                            have c30b1 : (t215 != t216) = true := bne_iff_ne.mpr c30
                            by_cases c31 : t215 < 0
                            · rw [if_pos c31] at H
                              have c31b0 : decide (t215 < 0) = true := decide_eq_true c31
                              clear c31
                              have H' := Aside0.mk H
                              clear H
                              go_wp2
                              go_meet
                              case rel => exact ⟨_, (true), (by first | rfl | (simp; done) | (simp [*]; done)), H', ⟨by have := HJ3.out; first | omega | exact Nat.le_refl _⟩, ⟨by repeat (first | (with_reducible first | exact HB.out | apply below_alloc | apply pw_below_drewN | apply below_drew1) | exact HB.out)⟩⟩
                            · rw [if_neg c31] at H
                              have c31b0 : decide (t215 < 0) = false := decide_eq_false c31
                              clear c31
                              have H' := Aside0.mk H
                              clear H
                              go_wp2
                              go_meet
                              case rel => exact ⟨_, (decide (t215 > 65535)), (by first | rfl | (simp; done) | (simp [*]; done)), H', ⟨by have := HJ3.out; first | omega | exact Nat.le_refl _⟩, ⟨by repeat (first | (with_reducible first | exact HB.out | apply below_alloc | apply pw_below_drewN | apply below_drew1) | exact HB.out)⟩⟩
                      case rest =>
                        clear HC24
                        try clear c1
                        try clear c2
                        try clear p2
                        try clear c3
                        try clear c6
                        try clear p6
                        try clear c7
                        try clear c7b0
                        try clear c8
                        try clear c9
                        try clear c10
                        try clear c11
                        try clear c12
                        try clear c12b0
                        try clear c12b1
                        try clear c14
                        try clear c14b0
                        try clear c14b1
                        try clear c15
                        try clear c15b0
                        try clear c15b1
                        try clear c17
                        try clear c17b0
                        try clear c17b1
                        try clear c17b2
                        try clear c19
                        try clear c19b0
                        try clear c19b1
                        try clear c20
                        try clear c20b0
                        try clear c20b1
                        try clear c21
                        try clear c21b0
                        try clear c21b1
                        try clear c21b2
                        try clear c24
                        try clear c25
                        try clear c28
                        try clear c28b0
                        try clear c28b1
                        try clear c29
                        try clear c29b0
                        try clear c30
                        try clear c30b0
                        try clear c30b1
                        try clear c31
                        try clear c31b0
                        try clear p2
                        try clear p6
                        obtain ⟨kq, x73_23, rfl, HA, HJ23, HB⟩ := hcut
                        cases kq with
                        | zero => exact absurd HA.out (by simp [intrusionlaw02_ChecksumDetects.j1])
                        | succ kj23 =>
                          have H := HA.out
                          clear HA
                          simp only [intrusionlaw02_ChecksumDetects.j1] at H
                          by_cases c32 : x73_23 = true
                          · subst c32
                            have H1 : (some false) = some r := by rw [if_pos rfl] at H; exact H
                            clear H
                            have H := H1
                            clear H1
                            obtain rfl := Option.some.inj H
                            go_wp2
                            go_ret
                            exact ⟨by first | rfl | (simp [errW_none, errW_some] <;> rfl) | (simp only [← hji13, ← hji18]; first | rfl | (simp [errW_none, errW_some] <;> rfl)) | (simp [*, errW_none, errW_some] <;> rfl), by repeat (first | (with_reducible first | exact HB.out | apply below_alloc | apply pw_below_drewN | apply below_drew1) | exact HB.out)⟩
                          · replace c32 := Bool.eq_false_iff.mpr c32
                            subst c32
                            have H1 : ((checksum_Update.f t215 t212 (wrap64 (a2))).bind fun t217 => (if t217 = t216 then ((intrusionlaw02_awake.f kj23).bind fun t218 => (some t218)) else (if (wrap64 (t217 + t216)) = 65535 then (if (wrap64 (t217 * t216)) = 0 then ((intrusionlaw02_awake.f kj23).bind fun t219 => (some t219)) else (some false)) else (some false)))) = some r := by rw [if_neg (show ¬ (false = true) by decide)] at H; exact H
                            clear H
                            have H := H1
                            clear H1
                            replace H := Option.bind_eq_some_iff.mp H
                            obtain ⟨t217, A330, H⟩ := H
                            replace H : (if t217 = t216 then ((intrusionlaw02_awake.f kj23).bind fun t218 => (some t218)) else (if (wrap64 (t217 + t216)) = 65535 then (if (wrap64 (t217 * t216)) = 0 then ((intrusionlaw02_awake.f kj23).bind fun t219 => (some t219)) else (some false)) else (some false))) = some r := H
                            have A33 := Aside0.mk A330
                            clear A330
                            by_cases c34 : t217 = t216
                            · rw [if_pos c34] at H
                              have c34b0 : (t217 == t216) = true := beq_iff_eq.mpr c34
                              have c34b1 : (t217 != t216) = false := bne_eq_false_iff_eq.mpr c34
                              clear c34
                              replace H := Option.bind_eq_some_iff.mp H
                              obtain ⟨t218, A350, H⟩ := H
                              replace H : (some t218) = some r := H
                              have A35 := Aside0.mk A350
                              clear A350
                              obtain rfl := Option.some.inj H
                              go_wp2_with (first | ((with_reducible refine gate_callee (f := 16) rfl ?_); refine goesL_ (some 77) rfl rfl Tryd.func16 (by kernel_rfl) rfl #[.int .i64 t215, .int .i64 t212, .int .i64 (wrap64 (a2))] rfl (by (try simp only [List.map_toArray, List.map_cons, List.map_nil]); first | done | rfl | (simp only [List.length_drop, List.length_take]; rfl)) ?_; (with_reducible refine (checksum_Update.calls t215 t212 (wrap64 (a2)) t217 _ A33.out).mono ?_); rintro e w' ⟨rfl, ⟨nd, rfl⟩⟩; refine ⟨_, rfl, ?_⟩) | (go_at_call 11; (with_reducible refine (intrusionlaw02_awake.calls kj23  t218 _ ?side1 A35.out).mono ?_); (case side1 => exact laid_below HLD.out (by repeat (first | (with_reducible first | exact HB.out | apply below_alloc | apply pw_below_drewN | apply below_drew1) | exact HB.out))); rintro e w36 ⟨rfl, hb⟩; have n0_ := Aside0.mk (below_step (by repeat (first | (with_reducible first | exact HB.out | apply below_alloc | apply pw_below_drewN | apply below_drew1) | exact HB.out)) hb); clear HB; have HB := n0_; clear n0_; (try clear hb); (try clear hb2); (try clear hk); (try clear hi)))
                              go_ret
                              exact ⟨by first | rfl | (simp [errW_none, errW_some] <;> rfl) | (simp only [← hji13, ← hji18]; first | rfl | (simp [errW_none, errW_some] <;> rfl)) | (simp [*, errW_none, errW_some] <;> rfl), by repeat (first | (with_reducible first | exact HB.out | apply below_alloc | apply pw_below_drewN | apply below_drew1) | exact HB.out)⟩
                            · rw [if_neg c34] at H
                              have c34b0 : (t217 == t216) = false := beq_eq_false_iff_ne.mpr c34
                              have c34b1 : (t217 != t216) = true := bne_iff_ne.mpr c34
                              by_cases c37 : (wrap64 (t217 + t216)) = 65535
                              · rw [if_pos c37] at H
                                have c37b0 : ((wrap64 (t217 + t216)) == 65535) = true := beq_iff_eq.mpr c37
                                have c37b1 : ((wrap64 (t217 + t216)) != 65535) = false := bne_eq_false_iff_eq.mpr c37
                                clear c37
                                by_cases c38 : (wrap64 (t217 * t216)) = 0
                                · rw [if_pos c38] at H
                                  have c38b0 : ((wrap64 (t217 * t216)) == 0) = true := beq_iff_eq.mpr c38
                                  have c38b1 : ((wrap64 (t217 * t216)) != 0) = false := bne_eq_false_iff_eq.mpr c38
                                  clear c38
                                  replace H := Option.bind_eq_some_iff.mp H
                                  obtain ⟨t219, A390, H⟩ := H
                                  replace H : (some t219) = some r := H
                                  have A39 := Aside0.mk A390
                                  clear A390
                                  obtain rfl := Option.some.inj H
                                  go_wp2_with (first | ((with_reducible refine gate_callee (f := 16) rfl ?_); refine goesL_ (some 77) rfl rfl Tryd.func16 (by kernel_rfl) rfl #[.int .i64 t215, .int .i64 t212, .int .i64 (wrap64 (a2))] rfl (by (try simp only [List.map_toArray, List.map_cons, List.map_nil]); first | done | rfl | (simp only [List.length_drop, List.length_take]; rfl)) ?_; (with_reducible refine (checksum_Update.calls t215 t212 (wrap64 (a2)) t217 _ A33.out).mono ?_); rintro e w' ⟨rfl, ⟨nd, rfl⟩⟩; refine ⟨_, rfl, ?_⟩) | (go_at_call 11; (with_reducible refine (intrusionlaw02_awake.calls kj23  t219 _ ?side1 A39.out).mono ?_); (case side1 => exact laid_below HLD.out (by repeat (first | (with_reducible first | exact HB.out | apply below_alloc | apply pw_below_drewN | apply below_drew1) | exact HB.out))); rintro e w40 ⟨rfl, hb⟩; have n0_ := Aside0.mk (below_step (by repeat (first | (with_reducible first | exact HB.out | apply below_alloc | apply pw_below_drewN | apply below_drew1) | exact HB.out)) hb); clear HB; have HB := n0_; clear n0_; (try clear hb); (try clear hb2); (try clear hk); (try clear hi)))
                                  go_ret
                                  exact ⟨by first | rfl | (simp [errW_none, errW_some] <;> rfl) | (simp only [← hji13, ← hji18]; first | rfl | (simp [errW_none, errW_some] <;> rfl)) | (simp [*, errW_none, errW_some] <;> rfl), by repeat (first | (with_reducible first | exact HB.out | apply below_alloc | apply pw_below_drewN | apply below_drew1) | exact HB.out)⟩
                                · rw [if_neg c38] at H
                                  have c38b0 : ((wrap64 (t217 * t216)) == 0) = false := beq_eq_false_iff_ne.mpr c38
                                  have c38b1 : ((wrap64 (t217 * t216)) != 0) = true := bne_iff_ne.mpr c38
                                  obtain rfl := Option.some.inj H
                                  go_wp2_with (first | ((with_reducible refine gate_callee (f := 16) rfl ?_); refine goesL_ (some 77) rfl rfl Tryd.func16 (by kernel_rfl) rfl #[.int .i64 t215, .int .i64 t212, .int .i64 (wrap64 (a2))] rfl (by (try simp only [List.map_toArray, List.map_cons, List.map_nil]); first | done | rfl | (simp only [List.length_drop, List.length_take]; rfl)) ?_; (with_reducible refine (checksum_Update.calls t215 t212 (wrap64 (a2)) t217 _ A33.out).mono ?_); rintro e w' ⟨rfl, ⟨nd, rfl⟩⟩; refine ⟨_, rfl, ?_⟩))
                                  go_ret
                                  exact ⟨by first | rfl | (simp [errW_none, errW_some] <;> rfl) | (simp only [← hji13, ← hji18]; first | rfl | (simp [errW_none, errW_some] <;> rfl)) | (simp [*, errW_none, errW_some] <;> rfl), by repeat (first | (with_reducible first | exact HB.out | apply below_alloc | apply pw_below_drewN | apply below_drew1) | exact HB.out)⟩
                              · rw [if_neg c37] at H
                                have c37b0 : ((wrap64 (t217 + t216)) == 65535) = false := beq_eq_false_iff_ne.mpr c37
                                have c37b1 : ((wrap64 (t217 + t216)) != 65535) = true := bne_iff_ne.mpr c37
                                obtain rfl := Option.some.inj H
                                go_wp2_with (first | ((with_reducible refine gate_callee (f := 16) rfl ?_); refine goesL_ (some 77) rfl rfl Tryd.func16 (by kernel_rfl) rfl #[.int .i64 t215, .int .i64 t212, .int .i64 (wrap64 (a2))] rfl (by (try simp only [List.map_toArray, List.map_cons, List.map_nil]); first | done | rfl | (simp only [List.length_drop, List.length_take]; rfl)) ?_; (with_reducible refine (checksum_Update.calls t215 t212 (wrap64 (a2)) t217 _ A33.out).mono ?_); rintro e w' ⟨rfl, ⟨nd, rfl⟩⟩; refine ⟨_, rfl, ?_⟩))
                                go_ret
                                exact ⟨by first | rfl | (simp [errW_none, errW_some] <;> rfl) | (simp only [← hji13, ← hji18]; first | rfl | (simp [errW_none, errW_some] <;> rfl)) | (simp [*, errW_none, errW_some] <;> rfl), by repeat (first | (with_reducible first | exact HB.out | apply below_alloc | apply pw_below_drewN | apply below_drew1) | exact HB.out)⟩
                    · rw [if_neg c21] at H
                      exact absurd H (by simp)
                  · rw [if_neg c20] at H
                    exact absurd H (by simp)
                · rw [if_neg c19] at H
                  exact absurd H (by simp)
              · rw [if_neg c17] at H
                exact absurd H (by simp)
            · rw [if_neg c15] at H
              exact absurd H (by simp)
          · rw [if_neg c14] at H
            exact absurd H (by simp)
        · rw [if_neg c12] at H
          have c12b0 : (t213 == 0) = false := beq_eq_false_iff_ne.mpr c12
          have c12b1 : (t213 != 0) = true := bne_iff_ne.mpr c12
          obtain rfl := Option.some.inj H
          go_wp2_with (first | ((with_reducible refine gate_callee (f := 25) rfl ?_); refine goesL_ (some 32) rfl rfl Tryd.func25 (by kernel_rfl) rfl #[.string a0, .int .i64 (wrap64 (2 * a1)), .int .i64 2] rfl (by (try simp only [List.map_toArray, List.map_cons, List.map_nil]); first | done | rfl | (simp only [List.length_drop, List.length_take]; rfl)) ?_; (with_reducible refine (field_Get.calls kj3 a0 (wrap64 (2 * a1)) 2 t212 t213 _ A11.out).mono ?_); rintro e w41 ⟨rfl, hb⟩; refine ⟨_, rfl, ?_⟩; have n0_ := Aside0.mk (below_step (by repeat (first | (with_reducible first | exact HB.out | apply below_alloc | apply pw_below_drewN | apply below_drew1) | exact HB.out)) hb); clear HB; have HB := n0_; clear n0_; (try clear hb); (try clear hb2); (try clear hk); (try clear hi)))
          go_ret
          exact ⟨by first | rfl | (simp [errW_none, errW_some] <;> rfl) | (simp [*, errW_none, errW_some] <;> rfl), by repeat (first | (with_reducible first | exact HB.out | apply below_alloc | apply pw_below_drewN | apply below_drew1) | exact HB.out)⟩

end Go.Proofs.YtjlhicpkceplhaaDoor.X
