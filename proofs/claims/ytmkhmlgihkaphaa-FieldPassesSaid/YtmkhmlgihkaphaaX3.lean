/- What the functions of the translation that this claim's statement reaches compute, each proved by its walk. Written by xprint.py, a program of this claim's author, run over the kit's printer. -/
import Derived.Test.YtmkhmlgihkaphaaX0
import Derived.Test.YtmkhmlgihkaphaaX1
import Derived.Test.YtmkhmlgihkaphaaX2
namespace Go.Proofs.Ytmkhmlgihkaphaa.X
open Go.RowKit Go.Proofs.YtmkhmlgihkaphaaW.PrintWords Go.Proofs.YtmkhmlgihkaphaaW.PrintLast Go.Proofs.YtmkhmlgihkaphaaW.PrintMore
attribute [local go_sem] max2_int min2_int max_two min_two max_three min_three max_four min_four   -- for this text's walks alone
set_option linter.unusedVariables false
set_option linter.unusedSimpArgs false

/-! ### field_part: function 36: told in its three ways -/
set_option maxHeartbeats 8000000 in
set_option maxRecDepth 100000 in
theorem field_part.range (s : ByteArray) (at_ size : Int) (w : World) (h : (size < 1 ∨ 7 < size) ∨ at_ < 0) :
    Calls Try.prog 36 #[.string s, .int .i64 at_, .int .i64 size] w fun e w' => e = .returned (.tuple #[.slice none 0 0, .int .i64 4]) ∧ Below w.heap.size w w' := by
  by_cases hv : 1 ≤ size ∧ size ≤ 7
  · have ha : decide (at_ < 0) = true := decide_eq_true (by omega)
    have A1 := Aside0.mk (show field_valid.f size = some true by unfold field_valid.f; rw [if_pos hv.1]; simp [hv.2])
    clear h hv
    go_enter Try.func36, Try.ntmps36
    go_wp2_with (first | (go_at_call 29; (with_reducible refine (field_valid.calls size true _ A1.out).mono ?_); rintro e w' ⟨rfl, ⟨nd, rfl⟩⟩))
    go_ret2
    exact ⟨rfl, by repeat (first | (with_reducible first | exact Below.refl _ _ | apply below_alloc | apply pw_below_drewN | apply below_drew1) | exact Below.refl _ _)⟩
  · have A1 := Aside0.mk (show field_valid.f size = some false by unfold field_valid.f; split <;> simp; omega)
    clear h hv
    go_enter Try.func36, Try.ntmps36
    go_wp2_with (first | (go_at_call 29; (with_reducible refine (field_valid.calls size false _ A1.out).mono ?_); rintro e w' ⟨rfl, ⟨nd, rfl⟩⟩))
    go_ret2
    exact ⟨rfl, by repeat (first | (with_reducible first | exact Below.refl _ _ | apply below_alloc | apply pw_below_drewN | apply below_drew1) | exact Below.refl _ _)⟩
set_option maxHeartbeats 8000000 in
set_option maxRecDepth 100000 in
theorem field_part.short (s : ByteArray) (at_ size : Int) (w : World) (h1 : 1 ≤ size) (h7 : size ≤ 7) (h0 : 0 ≤ at_) (hs : s.size ≤ 9223372036854775807) (h : (s.size : Int) < at_ ∨ (s.size : Int) - at_ < size) :
    Calls Try.prog 36 #[.string s, .int .i64 at_, .int .i64 size] w fun e w' => e = .returned (.tuple #[.slice none 0 0, .int .i64 1]) ∧ Below w.heap.size w w' := by
  have A1 := Aside0.mk (show field_valid.f size = some true by unfold field_valid.f; rw [if_pos h1]; simp [h7])
  have ha : decide (at_ < 0) = false := decide_eq_false (by omega)
  by_cases hb : (s.size : Int) < at_
  · have hc : decide ((s.size : Int) < at_) = true := decide_eq_true hb
    clear h hb
    go_enter Try.func36, Try.ntmps36
    go_wp2_with (first | (go_at_call 29; (with_reducible refine (field_valid.calls size true _ A1.out).mono ?_); rintro e w' ⟨rfl, ⟨nd, rfl⟩⟩))
    go_ret2
    exact ⟨rfl, by repeat (first | (with_reducible first | exact Below.refl _ _ | apply below_alloc | apply pw_below_drewN | apply below_drew1) | exact Below.refl _ _)⟩
  · have hc : decide ((s.size : Int) < at_) = false := decide_eq_false hb
    have hd : decide ((s.size : Int) - at_ < size) = true := decide_eq_true (by omega)
    clear h
    go_enter Try.func36, Try.ntmps36
    go_wp2_with (first | (go_at_call 29; (with_reducible refine (field_valid.calls size true _ A1.out).mono ?_); rintro e w' ⟨rfl, ⟨nd, rfl⟩⟩))
    go_ret2
    exact ⟨rfl, by repeat (first | (with_reducible first | exact Below.refl _ _ | apply below_alloc | apply pw_below_drewN | apply below_drew1) | exact Below.refl _ _)⟩
set_option maxHeartbeats 8000000 in
set_option maxRecDepth 100000 in
theorem field_part.whole (s : ByteArray) (size : Int) (w : World) (h1 : 1 ≤ size) (h7 : size ≤ 7) (hs : (s.size : Int) = size) :
    Calls Try.prog 36 #[.string s, .int .i64 0, .int .i64 size] w fun e w' => ∃ W1, e = .returned (.tuple #[.slice (some ⟨W1.heap.size, 0, none⟩) s.size s.size, .int .i64 0]) ∧ Below w.heap.size w W1 ∧ w' = Lib.bytesWorld W1 5 s := by
  have A1 := Aside0.mk (show field_valid.f size = some true by unfold field_valid.f; rw [if_pos h1]; simp [h7])
  have hb : decide ((s.size : Int) < 0) = false := decide_eq_false (by omega)
  have hd : decide ((s.size : Int) < size) = false := decide_eq_false (by omega)
  have HS := Aside0.mk hs
  have hsz : s.size ≤ 9223372036854775807 := by omega
  have hs0 : (0 : Int) ≤ (s.size : Int) := by omega
  have h00 : decide ((s.size : Int) < 0) = false := decide_eq_false (by omega)
  clear hs
  go_enter Try.func36, Try.ntmps36
  go_wp2_with (first | (go_at_call 29; (with_reducible refine (field_valid.calls size true _ A1.out).mono ?_); rintro e w' ⟨rfl, ⟨nd, rfl⟩⟩) | ((with_reducible refine gate_dst (N := 31) rfl ?_); refine conv_at 5 rfl (N := 31) rfl 9 39 _ rfl Try.underlying9 Try.underlying39 Try.underlying5 s rfl ?_) | ((with_reducible refine gate_dst (N := 40) rfl ?_); refine cut_at 5 rfl (N := 40) rfl 39 _ _ _ _ rfl Try.underlying39 (by kernel_rfl) w.heap.size s.size (grownCap (w.drewN nd) s.size 0 5) size HS.out.symm (by have := HS.out; omega) (grownCap_ge _ s.size 0 5) rfl rfl rfl rfl ?_))
  go_ret2
  exact ⟨w.drewN nd, rfl, pw_below_drewN (Below.refl _ _) nd, rfl⟩

/-! ### field_Get: function 25 -/
def field_Get.f (k : Nat) (a0 : ByteArray) (a1 : Int) (a2 : Int) : Option (Int × Int) :=
  if a0.size ≤ 9223372036854775807 then (if (a2 < 1 ∨ 7 < a2) ∨ a1 < 0 then some (0, 4) else if (a0.size : Int) < a1 ∨ (a0.size : Int) - a1 < a2 then some (0, 1)
    else (field_number.f k (bytesOf (a0.extract a1.toNat (a1 + a2).toNat))).bind fun t => some (t, 0)) else none
theorem field_Get.mono : ∀ a0 a1 a2 k, LeO (field_Get.f k a0 a1 a2) (field_Get.f (k + 1) a0 a1 a2) := by
  intro a0 a1 a2 k
  unfold field_Get.f
  refine LeO.ite ?_ (LeO.none _)
  refine LeO.ite (LeO.refl _) ?_
  refine LeO.ite (LeO.refl _) ?_
  exact LeO.bind (field_number.mono _ k) (fun _ => LeO.refl _)
theorem field_Get.number_nil : field_number.f 1 [] = some 0 := by decide
set_option maxHeartbeats 8000000 in
set_option maxRecDepth 100000 in
theorem field_Get.calls (k : Nat) (a0 : ByteArray) (a1 : Int) (a2 : Int) (r1 : Int) (r2 : Int) (w : World) (h : field_Get.f k a0 a1 a2 = some (r1, r2)) :
    Calls Try.prog 25 #[.string a0, .int .i64 a1, .int .i64 a2] w fun e w' => e = .returned (.tuple #[.int .i64 r1, .int .i64 r2]) ∧ Below w.heap.size w w' := by
  unfold field_Get.f at h
  have hsz : a0.size ≤ 9223372036854775807 := by
    rcases Nat.lt_or_ge 9223372036854775807 a0.size with h' | h'
    · rw [if_neg (by omega)] at h; cases h
    · exact h'
  rw [if_pos hsz] at h
  have hs0 : (0 : Int) ≤ (a0.size : Int) := by omega
  by_cases c1 : (a2 < 1 ∨ 7 < a2) ∨ a1 < 0
  · rw [if_pos c1] at h
    simp only [Option.some.injEq, Prod.mk.injEq] at h
    obtain ⟨rfl, rfl⟩ := h
    have HR := fun W => field_part.range a0 a1 a2 W c1
    have HRA := Aside0.mk HR
    clear HR
    by_cases hv : 1 ≤ a2 ∧ a2 ≤ 7
    · have ha : decide (0 ≤ a1) = false := decide_eq_false (by omega)
      have A1 := Aside0.mk (show field_valid.f a2 = some true by unfold field_valid.f; rw [if_pos hv.1]; simp [hv.2])
      clear hv c1
      go_enter Try.func25, Try.ntmps25
      go_wp2_with (first | (go_at_call 29; (with_reducible refine (field_valid.calls a2 true _ A1.out).mono ?_); rintro e w' ⟨rfl, ⟨nd, rfl⟩⟩) | (go_at_call 36; refine (HRA.out _).mono ?_; rintro e w1 ⟨rfl, hb⟩) | (go_at_call 33; refine (calls_of_args (args' := #[.slice none ([] : List Int).length 0]) rfl (field_number.calls 1 none 0 [] 0 _ (Kd.C_nil _ _) (Nat.zero_le _) field_Get.number_nil)).mono ?_; rintro e w2 ⟨rfl, ⟨nd2, rfl⟩⟩))
      go_ret2
      exact ⟨rfl, pw_below_drewN (below_step (pw_below_drewN (Below.refl _ _) _) hb) _⟩
    · have A1 := Aside0.mk (show field_valid.f a2 = some false by unfold field_valid.f; split <;> simp; omega)
      clear hv c1
      go_enter Try.func25, Try.ntmps25
      go_wp2_with (first | (go_at_call 29; (with_reducible refine (field_valid.calls a2 false _ A1.out).mono ?_); rintro e w' ⟨rfl, ⟨nd, rfl⟩⟩) | (go_at_call 36; refine (HRA.out _).mono ?_; rintro e w1 ⟨rfl, hb⟩) | (go_at_call 33; refine (calls_of_args (args' := #[.slice none ([] : List Int).length 0]) rfl (field_number.calls 1 none 0 [] 0 _ (Kd.C_nil _ _) (Nat.zero_le _) field_Get.number_nil)).mono ?_; rintro e w2 ⟨rfl, ⟨nd2, rfl⟩⟩))
      go_ret2
      exact ⟨rfl, pw_below_drewN (below_step (pw_below_drewN (Below.refl _ _) _) hb) _⟩
  · rw [if_neg c1] at h
    have A1 := Aside0.mk (show field_valid.f a2 = some true by unfold field_valid.f; rw [if_pos (by omega)]; simp; omega)
    have ha : decide (0 ≤ a1) = true := decide_eq_true (by omega)
    by_cases c2 : (a0.size : Int) < a1 ∨ (a0.size : Int) - a1 < a2
    · rw [if_pos c2] at h
      simp only [Option.some.injEq, Prod.mk.injEq] at h
      obtain ⟨rfl, rfl⟩ := h
      have HR := fun W => field_part.short a0 a1 a2 W (by omega) (by omega) (by omega) hsz c2
      have HRA := Aside0.mk HR
      clear HR
      by_cases hb : a1 ≤ (a0.size : Int)
      · have hc : decide (a1 ≤ (a0.size : Int)) = true := decide_eq_true hb
        have hd : decide (a2 ≤ (a0.size : Int) - a1) = false := decide_eq_false (by omega)
        have ha1 : 0 ≤ a1 := by omega
        clear c1 c2
        go_enter Try.func25, Try.ntmps25
        go_wp2_with (first | (go_at_call 29; (with_reducible refine (field_valid.calls a2 true _ A1.out).mono ?_); rintro e w' ⟨rfl, ⟨nd, rfl⟩⟩) | (go_at_call 36; refine (HRA.out _).mono ?_; rintro e w1 ⟨rfl, hb⟩) | (go_at_call 33; refine (calls_of_args (args' := #[.slice none ([] : List Int).length 0]) rfl (field_number.calls 1 none 0 [] 0 _ (Kd.C_nil _ _) (Nat.zero_le _) field_Get.number_nil)).mono ?_; rintro e w2 ⟨rfl, ⟨nd2, rfl⟩⟩))
        go_ret2
        exact ⟨rfl, pw_below_drewN (below_step (pw_below_drewN (Below.refl _ _) _) hb) _⟩
      · have hc : decide (a1 ≤ (a0.size : Int)) = false := decide_eq_false hb
        clear c1 c2 hb
        go_enter Try.func25, Try.ntmps25
        go_wp2_with (first | (go_at_call 29; (with_reducible refine (field_valid.calls a2 true _ A1.out).mono ?_); rintro e w' ⟨rfl, ⟨nd, rfl⟩⟩) | (go_at_call 36; refine (HRA.out _).mono ?_; rintro e w1 ⟨rfl, hb⟩) | (go_at_call 33; refine (calls_of_args (args' := #[.slice none ([] : List Int).length 0]) rfl (field_number.calls 1 none 0 [] 0 _ (Kd.C_nil _ _) (Nat.zero_le _) field_Get.number_nil)).mono ?_; rintro e w2 ⟨rfl, ⟨nd2, rfl⟩⟩))
        go_ret2
        exact ⟨rfl, pw_below_drewN (below_step (pw_below_drewN (Below.refl _ _) _) hb) _⟩
    · rw [if_neg c2] at h
      replace h := Option.bind_eq_some_iff.mp h
      obtain ⟨t, A20, h⟩ := h
      simp only [Option.some.injEq, Prod.mk.injEq] at h
      obtain ⟨rfl, rfl⟩ := h
      have A2 := Aside0.mk A20
      clear A20
      have hc : decide (a1 ≤ (a0.size : Int)) = true := decide_eq_true (by omega)
      have hd : decide (a2 ≤ (a0.size : Int) - a1) = true := decide_eq_true (by omega)
      have h1 : 0 ≤ a1 := by omega
      have h2 : a1 ≤ a1 + a2 := by omega
      have h3 : a1 + a2 ≤ (a0.size : Int) := by omega
      have h4 : a1 ≤ (a0.size : Int) := by omega
      have HX := Aside0.mk (show (((a0.extract a1.toNat (a1 + a2).toNat).size : Nat) : Int) = a2 by rw [ByteArray.size_extract]; omega)
      have h5 : 1 ≤ a2 := by omega
      have h6 : a2 ≤ 7 := by omega
      have HW := Aside0.mk (fun W => field_part.whole (a0.extract a1.toNat (a1 + a2).toNat) a2 W (by omega) (by omega) HX.out)
      clear c1 c2
      go_enter Try.func25, Try.ntmps25
      go_wp2_with (first | (go_at_call 29; (with_reducible refine (field_valid.calls a2 true _ A1.out).mono ?_); rintro e w' ⟨rfl, ⟨nd, rfl⟩⟩) | (go_at_call 36; refine (HW.out _).mono ?_; rintro e w1 ⟨W1, rfl, hb, rfl⟩) | (go_at_call 33; refine (calls_of_args (args' := #[.slice (some ⟨W1.heap.size, 0, none⟩) (bytesOf (a0.extract a1.toNat (a1 + a2).toNat)).length (a0.extract a1.toNat (a1 + a2).toNat).size]) (by rw [bytesOf_length, show (a0.extract a1.toNat (a1 + a2).toNat).size = (a1 + a2).toNat - a1.toNat from by rw [ByteArray.size_extract]; omega]) (field_number.calls k _ _ (bytesOf (a0.extract a1.toNat (a1 + a2).toNat)) t _ (Kd.C_of_reads (d := (0 : Int)) (h1 := fun _ => rfl) (by rw [bytesOf_length]; exact bytes_reads W1 5 _ (by have := HX.out; omega))) (by rw [bytesOf_length]; exact Nat.le_refl _) A2.out)).mono ?_; rintro e w2 ⟨rfl, ⟨nd2, rfl⟩⟩))
      go_ret2
      exact ⟨rfl, pw_below_drewN (bytes_below (below_step (pw_below_drewN (Below.refl _ _) _) hb) (below_size (below_step (pw_below_drewN (Below.refl _ _) _) hb)) 5 _) _⟩

/-! ### intrusionlaw01_awake: function 12 -/
def intrusionlaw01_awake.f (k : Nat)  : Option (Bool) := (field_Get.f k (⟨#[0, 1, 2]⟩ : ByteArray) 1 2).bind fun bt138 => ((field_NewReader.f (⟨#[1, 2, 3, 4, 5]⟩ : ByteArray)).bind fun bt140 => ((field_Put.f k 258 3).bind fun t144 => (if t144.toList = ([0, 1, 2] : List UInt8) then ((field_PutLittle.f k 258 3).bind fun t145 => (if t145.toList = ([2, 1, 0] : List UInt8) then ((field_Put.f k 256 1).bind fun t146 => (if t146.toList = ([] : List UInt8) then (if bt138.1 = 258 then (if bt138.2 = 0 then ((field_Reader_Int.f k bt140.1 bt140.2.1 bt140.2.2 2).bind fun bt147 => (if bt147.1 = 258 then ((field_Reader_Take.f bt147.2.1 bt147.2.2.1 bt147.2.2.2 1).bind fun bt151 => (if bt151.1.toList = ([3] : List UInt8) then ((field_Reader_Left.f bt151.2.1 bt151.2.2.1 bt151.2.2.2).bind fun bt155 => (some (bt155.1 == 2))) else (some false))) else (some false))) else (some false)) else (some false)) else (some false))) else (some false))) else (some false))))
theorem intrusionlaw01_awake.mono : ∀ k, LeO (intrusionlaw01_awake.f k ) (intrusionlaw01_awake.f (k + 1) ) := by
  intro  k
  unfold intrusionlaw01_awake.f
  repeat' first
      | (with_reducible exact field_Get.mono _ _ _ _)
      | (with_reducible exact field_Put.mono _ _ _)
      | (with_reducible exact field_PutLittle.mono _ _ _)
      | (with_reducible exact field_Reader_Int.mono _ _ _ _ _)
      | (with_reducible exact LeO.refl _)
      | (with_reducible exact LeO.none _)
      | (with_reducible refine LeO.ite ?_ ?_)
      | (with_reducible refine LeO.bind ?_ (fun _ => ?_))
      | exact field_Get.mono _ _ _ _
      | exact field_Put.mono _ _ _
      | exact field_PutLittle.mono _ _ _
      | exact field_Reader_Int.mono _ _ _ _ _
      | exact LeO.none _
      | refine LeO.ite ?_ ?_
      | refine LeO.bind ?_ (fun _ => ?_)
set_option maxHeartbeats 8000000 in
set_option maxRecDepth 100000 in
theorem intrusionlaw01_awake.calls (k : Nat)  (r : Bool) (w : World) (h : intrusionlaw01_awake.f k  = some r) :
    Calls Try.prog 12 #[] w fun e w' => e = .returned (.bool r) ∧ Below w.heap.size w w' := by
  have HB := Aside0.mk (Below.refl w.heap.size w)
  have H : ((field_Get.f k (⟨#[0, 1, 2]⟩ : ByteArray) 1 2).bind fun bt138 => ((field_NewReader.f (⟨#[1, 2, 3, 4, 5]⟩ : ByteArray)).bind fun bt140 => ((field_Put.f k 258 3).bind fun t144 => (if t144.toList = ([0, 1, 2] : List UInt8) then ((field_PutLittle.f k 258 3).bind fun t145 => (if t145.toList = ([2, 1, 0] : List UInt8) then ((field_Put.f k 256 1).bind fun t146 => (if t146.toList = ([] : List UInt8) then (if bt138.1 = 258 then (if bt138.2 = 0 then ((field_Reader_Int.f k bt140.1 bt140.2.1 bt140.2.2 2).bind fun bt147 => (if bt147.1 = 258 then ((field_Reader_Take.f bt147.2.1 bt147.2.2.1 bt147.2.2.2 1).bind fun bt151 => (if bt151.1.toList = ([3] : List UInt8) then ((field_Reader_Left.f bt151.2.1 bt151.2.2.1 bt151.2.2.2).bind fun bt155 => (some (bt155.1 == 2))) else (some false))) else (some false))) else (some false)) else (some false)) else (some false))) else (some false))) else (some false))))) = some r := h
  clear h
  replace H := Option.bind_eq_some_iff.mp H
  obtain ⟨⟨t138, t139⟩, A10, H⟩ := H
  replace H : ((field_NewReader.f (⟨#[1, 2, 3, 4, 5]⟩ : ByteArray)).bind fun bt140 => ((field_Put.f k 258 3).bind fun t144 => (if t144.toList = ([0, 1, 2] : List UInt8) then ((field_PutLittle.f k 258 3).bind fun t145 => (if t145.toList = ([2, 1, 0] : List UInt8) then ((field_Put.f k 256 1).bind fun t146 => (if t146.toList = ([] : List UInt8) then (if t138 = 258 then (if t139 = 0 then ((field_Reader_Int.f k bt140.1 bt140.2.1 bt140.2.2 2).bind fun bt147 => (if bt147.1 = 258 then ((field_Reader_Take.f bt147.2.1 bt147.2.2.1 bt147.2.2.2 1).bind fun bt151 => (if bt151.1.toList = ([3] : List UInt8) then ((field_Reader_Left.f bt151.2.1 bt151.2.2.1 bt151.2.2.2).bind fun bt155 => (some (bt155.1 == 2))) else (some false))) else (some false))) else (some false)) else (some false)) else (some false))) else (some false))) else (some false)))) = some r := H
  have A1 := Aside0.mk A10
  clear A10
  replace H := Option.bind_eq_some_iff.mp H
  obtain ⟨⟨t140, t141, t142⟩, A20, H⟩ := H
  replace H : ((field_Put.f k 258 3).bind fun t144 => (if t144.toList = ([0, 1, 2] : List UInt8) then ((field_PutLittle.f k 258 3).bind fun t145 => (if t145.toList = ([2, 1, 0] : List UInt8) then ((field_Put.f k 256 1).bind fun t146 => (if t146.toList = ([] : List UInt8) then (if t138 = 258 then (if t139 = 0 then ((field_Reader_Int.f k t140 t141 t142 2).bind fun bt147 => (if bt147.1 = 258 then ((field_Reader_Take.f bt147.2.1 bt147.2.2.1 bt147.2.2.2 1).bind fun bt151 => (if bt151.1.toList = ([3] : List UInt8) then ((field_Reader_Left.f bt151.2.1 bt151.2.2.1 bt151.2.2.2).bind fun bt155 => (some (bt155.1 == 2))) else (some false))) else (some false))) else (some false)) else (some false)) else (some false))) else (some false))) else (some false))) = some r := H
  have A2 := Aside0.mk A20
  clear A20
  replace H := Option.bind_eq_some_iff.mp H
  obtain ⟨t144, A30, H⟩ := H
  replace H : (if t144.toList = ([0, 1, 2] : List UInt8) then ((field_PutLittle.f k 258 3).bind fun t145 => (if t145.toList = ([2, 1, 0] : List UInt8) then ((field_Put.f k 256 1).bind fun t146 => (if t146.toList = ([] : List UInt8) then (if t138 = 258 then (if t139 = 0 then ((field_Reader_Int.f k t140 t141 t142 2).bind fun bt147 => (if bt147.1 = 258 then ((field_Reader_Take.f bt147.2.1 bt147.2.2.1 bt147.2.2.2 1).bind fun bt151 => (if bt151.1.toList = ([3] : List UInt8) then ((field_Reader_Left.f bt151.2.1 bt151.2.2.1 bt151.2.2.2).bind fun bt155 => (some (bt155.1 == 2))) else (some false))) else (some false))) else (some false)) else (some false)) else (some false))) else (some false))) else (some false)) = some r := H
  have A3 := Aside0.mk A30
  clear A30
  by_cases c4 : t144.toList = ([0, 1, 2] : List UInt8)
  · rw [if_pos c4] at H
    have c4b0 : (t144.toList == ([0, 1, 2] : List UInt8)) = true := beq_iff_eq.mpr c4
    have c4b1 : (t144.toList != ([0, 1, 2] : List UInt8)) = false := bne_eq_false_iff_eq.mpr c4
    clear c4
    replace H := Option.bind_eq_some_iff.mp H
    obtain ⟨t145, A50, H⟩ := H
    replace H : (if t145.toList = ([2, 1, 0] : List UInt8) then ((field_Put.f k 256 1).bind fun t146 => (if t146.toList = ([] : List UInt8) then (if t138 = 258 then (if t139 = 0 then ((field_Reader_Int.f k t140 t141 t142 2).bind fun bt147 => (if bt147.1 = 258 then ((field_Reader_Take.f bt147.2.1 bt147.2.2.1 bt147.2.2.2 1).bind fun bt151 => (if bt151.1.toList = ([3] : List UInt8) then ((field_Reader_Left.f bt151.2.1 bt151.2.2.1 bt151.2.2.2).bind fun bt155 => (some (bt155.1 == 2))) else (some false))) else (some false))) else (some false)) else (some false)) else (some false))) else (some false)) = some r := H
    have A5 := Aside0.mk A50
    clear A50
    by_cases c6 : t145.toList = ([2, 1, 0] : List UInt8)
    · rw [if_pos c6] at H
      have c6b0 : (t145.toList == ([2, 1, 0] : List UInt8)) = true := beq_iff_eq.mpr c6
      have c6b1 : (t145.toList != ([2, 1, 0] : List UInt8)) = false := bne_eq_false_iff_eq.mpr c6
      clear c6
      replace H := Option.bind_eq_some_iff.mp H
      obtain ⟨t146, A70, H⟩ := H
      replace H : (if t146.toList = ([] : List UInt8) then (if t138 = 258 then (if t139 = 0 then ((field_Reader_Int.f k t140 t141 t142 2).bind fun bt147 => (if bt147.1 = 258 then ((field_Reader_Take.f bt147.2.1 bt147.2.2.1 bt147.2.2.2 1).bind fun bt151 => (if bt151.1.toList = ([3] : List UInt8) then ((field_Reader_Left.f bt151.2.1 bt151.2.2.1 bt151.2.2.2).bind fun bt155 => (some (bt155.1 == 2))) else (some false))) else (some false))) else (some false)) else (some false)) else (some false)) = some r := H
      have A7 := Aside0.mk A70
      clear A70
      by_cases c8 : t146.toList = ([] : List UInt8)
      · rw [if_pos c8] at H
        have c8b0 : (t146.toList == ([] : List UInt8)) = true := beq_iff_eq.mpr c8
        have c8b1 : (t146.toList != ([] : List UInt8)) = false := bne_eq_false_iff_eq.mpr c8
        clear c8
        by_cases c9 : t138 = 258
        · rw [if_pos c9] at H
          have c9b0 : (t138 == 258) = true := beq_iff_eq.mpr c9
          have c9b1 : (t138 != 258) = false := bne_eq_false_iff_eq.mpr c9
          clear c9
          by_cases c10 : t139 = 0
          · rw [if_pos c10] at H
            have c10b0 : (t139 == 0) = true := beq_iff_eq.mpr c10
            have c10b1 : (t139 != 0) = false := bne_eq_false_iff_eq.mpr c10
            clear c10
            replace H := Option.bind_eq_some_iff.mp H
            obtain ⟨⟨t147, t148, t149, t150⟩, A110, H⟩ := H
            replace H : (if t147 = 258 then ((field_Reader_Take.f t148 t149 t150 1).bind fun bt151 => (if bt151.1.toList = ([3] : List UInt8) then ((field_Reader_Left.f bt151.2.1 bt151.2.2.1 bt151.2.2.2).bind fun bt155 => (some (bt155.1 == 2))) else (some false))) else (some false)) = some r := H
            have A11 := Aside0.mk A110
            clear A110
            by_cases c12 : t147 = 258
            · rw [if_pos c12] at H
              have c12b0 : (t147 == 258) = true := beq_iff_eq.mpr c12
              have c12b1 : (t147 != 258) = false := bne_eq_false_iff_eq.mpr c12
              clear c12
              replace H := Option.bind_eq_some_iff.mp H
              obtain ⟨⟨t151, t152, t153, t154⟩, A130, H⟩ := H
              replace H : (if t151.toList = ([3] : List UInt8) then ((field_Reader_Left.f t152 t153 t154).bind fun bt155 => (some (bt155.1 == 2))) else (some false)) = some r := H
              have A13 := Aside0.mk A130
              clear A130
              by_cases c14 : t151.toList = ([3] : List UInt8)
              · rw [if_pos c14] at H
                have c14b0 : (t151.toList == ([3] : List UInt8)) = true := beq_iff_eq.mpr c14
                have c14b1 : (t151.toList != ([3] : List UInt8)) = false := bne_eq_false_iff_eq.mpr c14
                clear c14
                replace H := Option.bind_eq_some_iff.mp H
                obtain ⟨⟨t155, t156, t157, t158⟩, A150, H⟩ := H
                replace H : (some (t155 == 2)) = some r := H
                have A15 := Aside0.mk A150
                clear A150
                obtain rfl := Option.some.inj H
                go_enter Try.func12, Try.ntmps12
                go_wp2_with (first | ((with_reducible refine gate_callee (f := 25) rfl ?_); refine goesL_ (some 5) rfl rfl Try.func25 (by kernel_rfl) rfl #[.string (⟨#[0, 1, 2]⟩ : ByteArray), .int .i64 1, .int .i64 2] rfl (by (try simp only [List.map_toArray, List.map_cons, List.map_nil]); first | done | rfl | (simp only [List.length_drop, List.length_take]; rfl)) ?_; (with_reducible refine (field_Get.calls k (⟨#[0, 1, 2]⟩ : ByteArray) 1 2 t138 t139 _ A1.out).mono ?_); rintro e w16 ⟨rfl, hb⟩; refine ⟨_, rfl, ?_⟩; have n0_ := Aside0.mk (below_step (by repeat (first | (with_reducible first | exact HB.out | apply below_alloc | apply pw_below_drewN | apply below_drew1) | exact HB.out)) hb); clear HB; have HB := n0_; clear n0_; (try clear hb); (try clear hb2); (try clear hk); (try clear hi)) | ((with_reducible refine gate_callee (f := 13) rfl ?_); refine goesL_ (some 8) rfl rfl Try.func13 (by kernel_rfl) rfl #[.string (⟨#[1, 2, 3, 4, 5]⟩ : ByteArray)] rfl (by (try simp only [List.map_toArray, List.map_cons, List.map_nil]); first | done | rfl | (simp only [List.length_drop, List.length_take]; rfl)) ?_; (with_reducible refine (field_NewReader.calls (⟨#[1, 2, 3, 4, 5]⟩ : ByteArray) t140 t141 t142 w _ ?side1 A2.out).mono ?_); (case side1 => repeat (first | (with_reducible first | exact HB.out | apply below_alloc | apply pw_below_drewN | apply below_drew1) | exact HB.out)); rintro e w17 ⟨g143, rfl, hi, hb, hb2⟩; refine ⟨_, rfl, ?_⟩; have n0_ := Aside0.mk (hb); have n1_ := Aside0.mk (hi); clear HB; have HB := n0_; have HI143 := n1_; clear n0_ n1_; (try clear hb); (try clear hb2); (try clear hk); (try clear hi)) | ((with_reducible refine gate_callee (f := 8) rfl ?_); refine goesL_ (some 9) rfl rfl Try.func8 (by kernel_rfl) rfl #[.int .i64 258, .int .i64 3] rfl (by (try simp only [List.map_toArray, List.map_cons, List.map_nil]); first | done | rfl | (simp only [List.length_drop, List.length_take]; rfl)) ?_; (with_reducible refine (field_Put.calls k 258 3 t144 _ A3.out).mono ?_); rintro e w18 ⟨rfl, hb⟩; refine ⟨_, rfl, ?_⟩; have n0_ := Aside0.mk (IsS53.below (by repeat (first | (with_reducible first | exact HI143.out | apply IsS53.alloc | apply IsS53.drewN | apply IsS53.drew | apply IsS53.set_0 | apply IsS53.set_1 | apply IsS53.set_2) | exact HI143.out)) hb); have n1_ := Aside0.mk (below_step (by repeat (first | (with_reducible first | exact HB.out | apply below_alloc | apply pw_below_drewN | apply below_drew1 | refine below_set ?_ (IsS53.ge HI143.out)) | exact HB.out)) hb); clear HI143; clear HB; have HI143 := n0_; have HB := n1_; clear n0_ n1_; (try clear hb); (try clear hb2); (try clear hk); (try clear hi)) | (go_at_call 10; (with_reducible refine (field_PutLittle.calls k 258 3 t145 _ A5.out).mono ?_); rintro e w19 ⟨rfl, hb⟩; have n0_ := Aside0.mk (IsS53.below (by repeat (first | (with_reducible first | exact HI143.out | apply IsS53.alloc | apply IsS53.drewN | apply IsS53.drew | apply IsS53.set_0 | apply IsS53.set_1 | apply IsS53.set_2) | exact HI143.out)) hb); have n1_ := Aside0.mk (below_step (by repeat (first | (with_reducible first | exact HB.out | apply below_alloc | apply pw_below_drewN | apply below_drew1 | refine below_set ?_ (IsS53.ge HI143.out)) | exact HB.out)) hb); clear HI143; clear HB; have HI143 := n0_; have HB := n1_; clear n0_ n1_; (try clear hb); (try clear hb2); (try clear hk); (try clear hi)) | (go_at_call 8; (with_reducible refine (field_Put.calls k 256 1 t146 _ A7.out).mono ?_); rintro e w20 ⟨rfl, hb⟩; have n0_ := Aside0.mk (IsS53.below (by repeat (first | (with_reducible first | exact HI143.out | apply IsS53.alloc | apply IsS53.drewN | apply IsS53.drew | apply IsS53.set_0 | apply IsS53.set_1 | apply IsS53.set_2) | exact HI143.out)) hb); have n1_ := Aside0.mk (below_step (by repeat (first | (with_reducible first | exact HB.out | apply below_alloc | apply pw_below_drewN | apply below_drew1 | refine below_set ?_ (IsS53.ge HI143.out)) | exact HB.out)) hb); clear HI143; clear HB; have HI143 := n0_; have HB := n1_; clear n0_ n1_; (try clear hb); (try clear hb2); (try clear hk); (try clear hi)) | (go_at_call 15; (with_reducible refine (field_Reader_Int.calls k g143 t140 t141 t142 2 t147 t148 t149 t150 w _ ?side1 ?side2 A11.out).mono ?_); (case side1 => repeat (first | (with_reducible first | exact HI143.out | apply IsS53.alloc | apply IsS53.drewN | apply IsS53.drew | apply IsS53.set_0 | apply IsS53.set_1 | apply IsS53.set_2) | exact HI143.out)); (case side2 => repeat (first | (with_reducible first | exact HB.out | apply below_alloc | apply pw_below_drewN | apply below_drew1 | refine below_set ?_ (IsS53.ge HI143.out)) | exact HB.out)); rintro e w21 ⟨rfl, hi, hb, hk⟩; have n0_ := Aside0.mk (hb); have n1_ := Aside0.mk (hi); clear HB; clear HI143; have HB := n0_; have HI143 := n1_; clear n0_ n1_; (try clear hb); (try clear hb2); (try clear hk); (try clear hi)) | (go_at_call 17; (with_reducible refine (field_Reader_Take.calls g143 t148 t149 t150 1 t151 t152 t153 t154 w _ ?side1 ?side2 A13.out).mono ?_); (case side1 => repeat (first | (with_reducible first | exact HI143.out | apply IsS53.alloc | apply IsS53.drewN | apply IsS53.drew | apply IsS53.set_0 | apply IsS53.set_1 | apply IsS53.set_2) | exact HI143.out)); (case side2 => repeat (first | (with_reducible first | exact HB.out | apply below_alloc | apply pw_below_drewN | apply below_drew1 | refine below_set ?_ (IsS53.ge HI143.out)) | exact HB.out)); rintro e w22 ⟨rfl, hi, hb, hk⟩; have n0_ := Aside0.mk (hb); have n1_ := Aside0.mk (hi); clear HB; clear HI143; have HB := n0_; have HI143 := n1_; clear n0_ n1_; (try clear hb); (try clear hb2); (try clear hk); (try clear hi)) | (go_at_call 21; (with_reducible refine (field_Reader_Left.calls g143 t152 t153 t154 t155 t156 t157 t158 w _ ?side1 ?side2 A15.out).mono ?_); (case side1 => repeat (first | (with_reducible first | exact HI143.out | apply IsS53.alloc | apply IsS53.drewN | apply IsS53.drew | apply IsS53.set_0 | apply IsS53.set_1 | apply IsS53.set_2) | exact HI143.out)); (case side2 => repeat (first | (with_reducible first | exact HB.out | apply below_alloc | apply pw_below_drewN | apply below_drew1 | refine below_set ?_ (IsS53.ge HI143.out)) | exact HB.out)); rintro e w23 ⟨rfl, hi, hb, hk⟩; have n0_ := Aside0.mk (hb); have n1_ := Aside0.mk (hi); clear HB; clear HI143; have HB := n0_; have HI143 := n1_; clear n0_ n1_; (try clear hb); (try clear hb2); (try clear hk); (try clear hi)))
                go_ret
                exact ⟨by first | rfl | (simp [errW_none, errW_some] <;> rfl) | (simp [*, errW_none, errW_some] <;> rfl), by repeat (first | (with_reducible first | exact HB.out | apply below_alloc | apply pw_below_drewN | apply below_drew1 | refine below_set ?_ (IsS53.ge HI143.out)) | exact HB.out)⟩
              · rw [if_neg c14] at H
                have c14b0 : (t151.toList == ([3] : List UInt8)) = false := beq_eq_false_iff_ne.mpr c14
                have c14b1 : (t151.toList != ([3] : List UInt8)) = true := bne_iff_ne.mpr c14
                obtain rfl := Option.some.inj H
                go_enter Try.func12, Try.ntmps12
                go_wp2_with (first | ((with_reducible refine gate_callee (f := 25) rfl ?_); refine goesL_ (some 5) rfl rfl Try.func25 (by kernel_rfl) rfl #[.string (⟨#[0, 1, 2]⟩ : ByteArray), .int .i64 1, .int .i64 2] rfl (by (try simp only [List.map_toArray, List.map_cons, List.map_nil]); first | done | rfl | (simp only [List.length_drop, List.length_take]; rfl)) ?_; (with_reducible refine (field_Get.calls k (⟨#[0, 1, 2]⟩ : ByteArray) 1 2 t138 t139 _ A1.out).mono ?_); rintro e w24 ⟨rfl, hb⟩; refine ⟨_, rfl, ?_⟩; have n0_ := Aside0.mk (below_step (by repeat (first | (with_reducible first | exact HB.out | apply below_alloc | apply pw_below_drewN | apply below_drew1) | exact HB.out)) hb); clear HB; have HB := n0_; clear n0_; (try clear hb); (try clear hb2); (try clear hk); (try clear hi)) | ((with_reducible refine gate_callee (f := 13) rfl ?_); refine goesL_ (some 8) rfl rfl Try.func13 (by kernel_rfl) rfl #[.string (⟨#[1, 2, 3, 4, 5]⟩ : ByteArray)] rfl (by (try simp only [List.map_toArray, List.map_cons, List.map_nil]); first | done | rfl | (simp only [List.length_drop, List.length_take]; rfl)) ?_; (with_reducible refine (field_NewReader.calls (⟨#[1, 2, 3, 4, 5]⟩ : ByteArray) t140 t141 t142 w _ ?side1 A2.out).mono ?_); (case side1 => repeat (first | (with_reducible first | exact HB.out | apply below_alloc | apply pw_below_drewN | apply below_drew1) | exact HB.out)); rintro e w25 ⟨g143, rfl, hi, hb, hb2⟩; refine ⟨_, rfl, ?_⟩; have n0_ := Aside0.mk (hb); have n1_ := Aside0.mk (hi); clear HB; have HB := n0_; have HI143 := n1_; clear n0_ n1_; (try clear hb); (try clear hb2); (try clear hk); (try clear hi)) | ((with_reducible refine gate_callee (f := 8) rfl ?_); refine goesL_ (some 9) rfl rfl Try.func8 (by kernel_rfl) rfl #[.int .i64 258, .int .i64 3] rfl (by (try simp only [List.map_toArray, List.map_cons, List.map_nil]); first | done | rfl | (simp only [List.length_drop, List.length_take]; rfl)) ?_; (with_reducible refine (field_Put.calls k 258 3 t144 _ A3.out).mono ?_); rintro e w26 ⟨rfl, hb⟩; refine ⟨_, rfl, ?_⟩; have n0_ := Aside0.mk (IsS53.below (by repeat (first | (with_reducible first | exact HI143.out | apply IsS53.alloc | apply IsS53.drewN | apply IsS53.drew | apply IsS53.set_0 | apply IsS53.set_1 | apply IsS53.set_2) | exact HI143.out)) hb); have n1_ := Aside0.mk (below_step (by repeat (first | (with_reducible first | exact HB.out | apply below_alloc | apply pw_below_drewN | apply below_drew1 | refine below_set ?_ (IsS53.ge HI143.out)) | exact HB.out)) hb); clear HI143; clear HB; have HI143 := n0_; have HB := n1_; clear n0_ n1_; (try clear hb); (try clear hb2); (try clear hk); (try clear hi)) | (go_at_call 10; (with_reducible refine (field_PutLittle.calls k 258 3 t145 _ A5.out).mono ?_); rintro e w27 ⟨rfl, hb⟩; have n0_ := Aside0.mk (IsS53.below (by repeat (first | (with_reducible first | exact HI143.out | apply IsS53.alloc | apply IsS53.drewN | apply IsS53.drew | apply IsS53.set_0 | apply IsS53.set_1 | apply IsS53.set_2) | exact HI143.out)) hb); have n1_ := Aside0.mk (below_step (by repeat (first | (with_reducible first | exact HB.out | apply below_alloc | apply pw_below_drewN | apply below_drew1 | refine below_set ?_ (IsS53.ge HI143.out)) | exact HB.out)) hb); clear HI143; clear HB; have HI143 := n0_; have HB := n1_; clear n0_ n1_; (try clear hb); (try clear hb2); (try clear hk); (try clear hi)) | (go_at_call 8; (with_reducible refine (field_Put.calls k 256 1 t146 _ A7.out).mono ?_); rintro e w28 ⟨rfl, hb⟩; have n0_ := Aside0.mk (IsS53.below (by repeat (first | (with_reducible first | exact HI143.out | apply IsS53.alloc | apply IsS53.drewN | apply IsS53.drew | apply IsS53.set_0 | apply IsS53.set_1 | apply IsS53.set_2) | exact HI143.out)) hb); have n1_ := Aside0.mk (below_step (by repeat (first | (with_reducible first | exact HB.out | apply below_alloc | apply pw_below_drewN | apply below_drew1 | refine below_set ?_ (IsS53.ge HI143.out)) | exact HB.out)) hb); clear HI143; clear HB; have HI143 := n0_; have HB := n1_; clear n0_ n1_; (try clear hb); (try clear hb2); (try clear hk); (try clear hi)) | (go_at_call 15; (with_reducible refine (field_Reader_Int.calls k g143 t140 t141 t142 2 t147 t148 t149 t150 w _ ?side1 ?side2 A11.out).mono ?_); (case side1 => repeat (first | (with_reducible first | exact HI143.out | apply IsS53.alloc | apply IsS53.drewN | apply IsS53.drew | apply IsS53.set_0 | apply IsS53.set_1 | apply IsS53.set_2) | exact HI143.out)); (case side2 => repeat (first | (with_reducible first | exact HB.out | apply below_alloc | apply pw_below_drewN | apply below_drew1 | refine below_set ?_ (IsS53.ge HI143.out)) | exact HB.out)); rintro e w29 ⟨rfl, hi, hb, hk⟩; have n0_ := Aside0.mk (hb); have n1_ := Aside0.mk (hi); clear HB; clear HI143; have HB := n0_; have HI143 := n1_; clear n0_ n1_; (try clear hb); (try clear hb2); (try clear hk); (try clear hi)) | (go_at_call 17; (with_reducible refine (field_Reader_Take.calls g143 t148 t149 t150 1 t151 t152 t153 t154 w _ ?side1 ?side2 A13.out).mono ?_); (case side1 => repeat (first | (with_reducible first | exact HI143.out | apply IsS53.alloc | apply IsS53.drewN | apply IsS53.drew | apply IsS53.set_0 | apply IsS53.set_1 | apply IsS53.set_2) | exact HI143.out)); (case side2 => repeat (first | (with_reducible first | exact HB.out | apply below_alloc | apply pw_below_drewN | apply below_drew1 | refine below_set ?_ (IsS53.ge HI143.out)) | exact HB.out)); rintro e w30 ⟨rfl, hi, hb, hk⟩; have n0_ := Aside0.mk (hb); have n1_ := Aside0.mk (hi); clear HB; clear HI143; have HB := n0_; have HI143 := n1_; clear n0_ n1_; (try clear hb); (try clear hb2); (try clear hk); (try clear hi)))
                go_ret
                exact ⟨by first | rfl | (simp [errW_none, errW_some] <;> rfl) | (simp [*, errW_none, errW_some] <;> rfl), by repeat (first | (with_reducible first | exact HB.out | apply below_alloc | apply pw_below_drewN | apply below_drew1 | refine below_set ?_ (IsS53.ge HI143.out)) | exact HB.out)⟩
            · rw [if_neg c12] at H
              have c12b0 : (t147 == 258) = false := beq_eq_false_iff_ne.mpr c12
              have c12b1 : (t147 != 258) = true := bne_iff_ne.mpr c12
              obtain rfl := Option.some.inj H
              go_enter Try.func12, Try.ntmps12
              go_wp2_with (first | ((with_reducible refine gate_callee (f := 25) rfl ?_); refine goesL_ (some 5) rfl rfl Try.func25 (by kernel_rfl) rfl #[.string (⟨#[0, 1, 2]⟩ : ByteArray), .int .i64 1, .int .i64 2] rfl (by (try simp only [List.map_toArray, List.map_cons, List.map_nil]); first | done | rfl | (simp only [List.length_drop, List.length_take]; rfl)) ?_; (with_reducible refine (field_Get.calls k (⟨#[0, 1, 2]⟩ : ByteArray) 1 2 t138 t139 _ A1.out).mono ?_); rintro e w31 ⟨rfl, hb⟩; refine ⟨_, rfl, ?_⟩; have n0_ := Aside0.mk (below_step (by repeat (first | (with_reducible first | exact HB.out | apply below_alloc | apply pw_below_drewN | apply below_drew1) | exact HB.out)) hb); clear HB; have HB := n0_; clear n0_; (try clear hb); (try clear hb2); (try clear hk); (try clear hi)) | ((with_reducible refine gate_callee (f := 13) rfl ?_); refine goesL_ (some 8) rfl rfl Try.func13 (by kernel_rfl) rfl #[.string (⟨#[1, 2, 3, 4, 5]⟩ : ByteArray)] rfl (by (try simp only [List.map_toArray, List.map_cons, List.map_nil]); first | done | rfl | (simp only [List.length_drop, List.length_take]; rfl)) ?_; (with_reducible refine (field_NewReader.calls (⟨#[1, 2, 3, 4, 5]⟩ : ByteArray) t140 t141 t142 w _ ?side1 A2.out).mono ?_); (case side1 => repeat (first | (with_reducible first | exact HB.out | apply below_alloc | apply pw_below_drewN | apply below_drew1) | exact HB.out)); rintro e w32 ⟨g143, rfl, hi, hb, hb2⟩; refine ⟨_, rfl, ?_⟩; have n0_ := Aside0.mk (hb); have n1_ := Aside0.mk (hi); clear HB; have HB := n0_; have HI143 := n1_; clear n0_ n1_; (try clear hb); (try clear hb2); (try clear hk); (try clear hi)) | ((with_reducible refine gate_callee (f := 8) rfl ?_); refine goesL_ (some 9) rfl rfl Try.func8 (by kernel_rfl) rfl #[.int .i64 258, .int .i64 3] rfl (by (try simp only [List.map_toArray, List.map_cons, List.map_nil]); first | done | rfl | (simp only [List.length_drop, List.length_take]; rfl)) ?_; (with_reducible refine (field_Put.calls k 258 3 t144 _ A3.out).mono ?_); rintro e w33 ⟨rfl, hb⟩; refine ⟨_, rfl, ?_⟩; have n0_ := Aside0.mk (IsS53.below (by repeat (first | (with_reducible first | exact HI143.out | apply IsS53.alloc | apply IsS53.drewN | apply IsS53.drew | apply IsS53.set_0 | apply IsS53.set_1 | apply IsS53.set_2) | exact HI143.out)) hb); have n1_ := Aside0.mk (below_step (by repeat (first | (with_reducible first | exact HB.out | apply below_alloc | apply pw_below_drewN | apply below_drew1 | refine below_set ?_ (IsS53.ge HI143.out)) | exact HB.out)) hb); clear HI143; clear HB; have HI143 := n0_; have HB := n1_; clear n0_ n1_; (try clear hb); (try clear hb2); (try clear hk); (try clear hi)) | (go_at_call 10; (with_reducible refine (field_PutLittle.calls k 258 3 t145 _ A5.out).mono ?_); rintro e w34 ⟨rfl, hb⟩; have n0_ := Aside0.mk (IsS53.below (by repeat (first | (with_reducible first | exact HI143.out | apply IsS53.alloc | apply IsS53.drewN | apply IsS53.drew | apply IsS53.set_0 | apply IsS53.set_1 | apply IsS53.set_2) | exact HI143.out)) hb); have n1_ := Aside0.mk (below_step (by repeat (first | (with_reducible first | exact HB.out | apply below_alloc | apply pw_below_drewN | apply below_drew1 | refine below_set ?_ (IsS53.ge HI143.out)) | exact HB.out)) hb); clear HI143; clear HB; have HI143 := n0_; have HB := n1_; clear n0_ n1_; (try clear hb); (try clear hb2); (try clear hk); (try clear hi)) | (go_at_call 8; (with_reducible refine (field_Put.calls k 256 1 t146 _ A7.out).mono ?_); rintro e w35 ⟨rfl, hb⟩; have n0_ := Aside0.mk (IsS53.below (by repeat (first | (with_reducible first | exact HI143.out | apply IsS53.alloc | apply IsS53.drewN | apply IsS53.drew | apply IsS53.set_0 | apply IsS53.set_1 | apply IsS53.set_2) | exact HI143.out)) hb); have n1_ := Aside0.mk (below_step (by repeat (first | (with_reducible first | exact HB.out | apply below_alloc | apply pw_below_drewN | apply below_drew1 | refine below_set ?_ (IsS53.ge HI143.out)) | exact HB.out)) hb); clear HI143; clear HB; have HI143 := n0_; have HB := n1_; clear n0_ n1_; (try clear hb); (try clear hb2); (try clear hk); (try clear hi)) | (go_at_call 15; (with_reducible refine (field_Reader_Int.calls k g143 t140 t141 t142 2 t147 t148 t149 t150 w _ ?side1 ?side2 A11.out).mono ?_); (case side1 => repeat (first | (with_reducible first | exact HI143.out | apply IsS53.alloc | apply IsS53.drewN | apply IsS53.drew | apply IsS53.set_0 | apply IsS53.set_1 | apply IsS53.set_2) | exact HI143.out)); (case side2 => repeat (first | (with_reducible first | exact HB.out | apply below_alloc | apply pw_below_drewN | apply below_drew1 | refine below_set ?_ (IsS53.ge HI143.out)) | exact HB.out)); rintro e w36 ⟨rfl, hi, hb, hk⟩; have n0_ := Aside0.mk (hb); have n1_ := Aside0.mk (hi); clear HB; clear HI143; have HB := n0_; have HI143 := n1_; clear n0_ n1_; (try clear hb); (try clear hb2); (try clear hk); (try clear hi)))
              go_ret
              exact ⟨by first | rfl | (simp [errW_none, errW_some] <;> rfl) | (simp [*, errW_none, errW_some] <;> rfl), by repeat (first | (with_reducible first | exact HB.out | apply below_alloc | apply pw_below_drewN | apply below_drew1 | refine below_set ?_ (IsS53.ge HI143.out)) | exact HB.out)⟩
          · rw [if_neg c10] at H
            have c10b0 : (t139 == 0) = false := beq_eq_false_iff_ne.mpr c10
            have c10b1 : (t139 != 0) = true := bne_iff_ne.mpr c10
            obtain rfl := Option.some.inj H
            go_enter Try.func12, Try.ntmps12
            go_wp2_with (first | ((with_reducible refine gate_callee (f := 25) rfl ?_); refine goesL_ (some 5) rfl rfl Try.func25 (by kernel_rfl) rfl #[.string (⟨#[0, 1, 2]⟩ : ByteArray), .int .i64 1, .int .i64 2] rfl (by (try simp only [List.map_toArray, List.map_cons, List.map_nil]); first | done | rfl | (simp only [List.length_drop, List.length_take]; rfl)) ?_; (with_reducible refine (field_Get.calls k (⟨#[0, 1, 2]⟩ : ByteArray) 1 2 t138 t139 _ A1.out).mono ?_); rintro e w37 ⟨rfl, hb⟩; refine ⟨_, rfl, ?_⟩; have n0_ := Aside0.mk (below_step (by repeat (first | (with_reducible first | exact HB.out | apply below_alloc | apply pw_below_drewN | apply below_drew1) | exact HB.out)) hb); clear HB; have HB := n0_; clear n0_; (try clear hb); (try clear hb2); (try clear hk); (try clear hi)) | ((with_reducible refine gate_callee (f := 13) rfl ?_); refine goesL_ (some 8) rfl rfl Try.func13 (by kernel_rfl) rfl #[.string (⟨#[1, 2, 3, 4, 5]⟩ : ByteArray)] rfl (by (try simp only [List.map_toArray, List.map_cons, List.map_nil]); first | done | rfl | (simp only [List.length_drop, List.length_take]; rfl)) ?_; (with_reducible refine (field_NewReader.calls (⟨#[1, 2, 3, 4, 5]⟩ : ByteArray) t140 t141 t142 w _ ?side1 A2.out).mono ?_); (case side1 => repeat (first | (with_reducible first | exact HB.out | apply below_alloc | apply pw_below_drewN | apply below_drew1) | exact HB.out)); rintro e w38 ⟨g143, rfl, hi, hb, hb2⟩; refine ⟨_, rfl, ?_⟩; have n0_ := Aside0.mk (hb); have n1_ := Aside0.mk (hi); clear HB; have HB := n0_; have HI143 := n1_; clear n0_ n1_; (try clear hb); (try clear hb2); (try clear hk); (try clear hi)) | ((with_reducible refine gate_callee (f := 8) rfl ?_); refine goesL_ (some 9) rfl rfl Try.func8 (by kernel_rfl) rfl #[.int .i64 258, .int .i64 3] rfl (by (try simp only [List.map_toArray, List.map_cons, List.map_nil]); first | done | rfl | (simp only [List.length_drop, List.length_take]; rfl)) ?_; (with_reducible refine (field_Put.calls k 258 3 t144 _ A3.out).mono ?_); rintro e w39 ⟨rfl, hb⟩; refine ⟨_, rfl, ?_⟩; have n0_ := Aside0.mk (IsS53.below (by repeat (first | (with_reducible first | exact HI143.out | apply IsS53.alloc | apply IsS53.drewN | apply IsS53.drew | apply IsS53.set_0 | apply IsS53.set_1 | apply IsS53.set_2) | exact HI143.out)) hb); have n1_ := Aside0.mk (below_step (by repeat (first | (with_reducible first | exact HB.out | apply below_alloc | apply pw_below_drewN | apply below_drew1 | refine below_set ?_ (IsS53.ge HI143.out)) | exact HB.out)) hb); clear HI143; clear HB; have HI143 := n0_; have HB := n1_; clear n0_ n1_; (try clear hb); (try clear hb2); (try clear hk); (try clear hi)) | (go_at_call 10; (with_reducible refine (field_PutLittle.calls k 258 3 t145 _ A5.out).mono ?_); rintro e w40 ⟨rfl, hb⟩; have n0_ := Aside0.mk (IsS53.below (by repeat (first | (with_reducible first | exact HI143.out | apply IsS53.alloc | apply IsS53.drewN | apply IsS53.drew | apply IsS53.set_0 | apply IsS53.set_1 | apply IsS53.set_2) | exact HI143.out)) hb); have n1_ := Aside0.mk (below_step (by repeat (first | (with_reducible first | exact HB.out | apply below_alloc | apply pw_below_drewN | apply below_drew1 | refine below_set ?_ (IsS53.ge HI143.out)) | exact HB.out)) hb); clear HI143; clear HB; have HI143 := n0_; have HB := n1_; clear n0_ n1_; (try clear hb); (try clear hb2); (try clear hk); (try clear hi)) | (go_at_call 8; (with_reducible refine (field_Put.calls k 256 1 t146 _ A7.out).mono ?_); rintro e w41 ⟨rfl, hb⟩; have n0_ := Aside0.mk (IsS53.below (by repeat (first | (with_reducible first | exact HI143.out | apply IsS53.alloc | apply IsS53.drewN | apply IsS53.drew | apply IsS53.set_0 | apply IsS53.set_1 | apply IsS53.set_2) | exact HI143.out)) hb); have n1_ := Aside0.mk (below_step (by repeat (first | (with_reducible first | exact HB.out | apply below_alloc | apply pw_below_drewN | apply below_drew1 | refine below_set ?_ (IsS53.ge HI143.out)) | exact HB.out)) hb); clear HI143; clear HB; have HI143 := n0_; have HB := n1_; clear n0_ n1_; (try clear hb); (try clear hb2); (try clear hk); (try clear hi)))
            go_ret
            exact ⟨by first | rfl | (simp [errW_none, errW_some] <;> rfl) | (simp [*, errW_none, errW_some] <;> rfl), by repeat (first | (with_reducible first | exact HB.out | apply below_alloc | apply pw_below_drewN | apply below_drew1 | refine below_set ?_ (IsS53.ge HI143.out)) | exact HB.out)⟩
        · rw [if_neg c9] at H
          have c9b0 : (t138 == 258) = false := beq_eq_false_iff_ne.mpr c9
          have c9b1 : (t138 != 258) = true := bne_iff_ne.mpr c9
          obtain rfl := Option.some.inj H
          go_enter Try.func12, Try.ntmps12
          go_wp2_with (first | ((with_reducible refine gate_callee (f := 25) rfl ?_); refine goesL_ (some 5) rfl rfl Try.func25 (by kernel_rfl) rfl #[.string (⟨#[0, 1, 2]⟩ : ByteArray), .int .i64 1, .int .i64 2] rfl (by (try simp only [List.map_toArray, List.map_cons, List.map_nil]); first | done | rfl | (simp only [List.length_drop, List.length_take]; rfl)) ?_; (with_reducible refine (field_Get.calls k (⟨#[0, 1, 2]⟩ : ByteArray) 1 2 t138 t139 _ A1.out).mono ?_); rintro e w42 ⟨rfl, hb⟩; refine ⟨_, rfl, ?_⟩; have n0_ := Aside0.mk (below_step (by repeat (first | (with_reducible first | exact HB.out | apply below_alloc | apply pw_below_drewN | apply below_drew1) | exact HB.out)) hb); clear HB; have HB := n0_; clear n0_; (try clear hb); (try clear hb2); (try clear hk); (try clear hi)) | ((with_reducible refine gate_callee (f := 13) rfl ?_); refine goesL_ (some 8) rfl rfl Try.func13 (by kernel_rfl) rfl #[.string (⟨#[1, 2, 3, 4, 5]⟩ : ByteArray)] rfl (by (try simp only [List.map_toArray, List.map_cons, List.map_nil]); first | done | rfl | (simp only [List.length_drop, List.length_take]; rfl)) ?_; (with_reducible refine (field_NewReader.calls (⟨#[1, 2, 3, 4, 5]⟩ : ByteArray) t140 t141 t142 w _ ?side1 A2.out).mono ?_); (case side1 => repeat (first | (with_reducible first | exact HB.out | apply below_alloc | apply pw_below_drewN | apply below_drew1) | exact HB.out)); rintro e w43 ⟨g143, rfl, hi, hb, hb2⟩; refine ⟨_, rfl, ?_⟩; have n0_ := Aside0.mk (hb); have n1_ := Aside0.mk (hi); clear HB; have HB := n0_; have HI143 := n1_; clear n0_ n1_; (try clear hb); (try clear hb2); (try clear hk); (try clear hi)) | ((with_reducible refine gate_callee (f := 8) rfl ?_); refine goesL_ (some 9) rfl rfl Try.func8 (by kernel_rfl) rfl #[.int .i64 258, .int .i64 3] rfl (by (try simp only [List.map_toArray, List.map_cons, List.map_nil]); first | done | rfl | (simp only [List.length_drop, List.length_take]; rfl)) ?_; (with_reducible refine (field_Put.calls k 258 3 t144 _ A3.out).mono ?_); rintro e w44 ⟨rfl, hb⟩; refine ⟨_, rfl, ?_⟩; have n0_ := Aside0.mk (IsS53.below (by repeat (first | (with_reducible first | exact HI143.out | apply IsS53.alloc | apply IsS53.drewN | apply IsS53.drew | apply IsS53.set_0 | apply IsS53.set_1 | apply IsS53.set_2) | exact HI143.out)) hb); have n1_ := Aside0.mk (below_step (by repeat (first | (with_reducible first | exact HB.out | apply below_alloc | apply pw_below_drewN | apply below_drew1 | refine below_set ?_ (IsS53.ge HI143.out)) | exact HB.out)) hb); clear HI143; clear HB; have HI143 := n0_; have HB := n1_; clear n0_ n1_; (try clear hb); (try clear hb2); (try clear hk); (try clear hi)) | (go_at_call 10; (with_reducible refine (field_PutLittle.calls k 258 3 t145 _ A5.out).mono ?_); rintro e w45 ⟨rfl, hb⟩; have n0_ := Aside0.mk (IsS53.below (by repeat (first | (with_reducible first | exact HI143.out | apply IsS53.alloc | apply IsS53.drewN | apply IsS53.drew | apply IsS53.set_0 | apply IsS53.set_1 | apply IsS53.set_2) | exact HI143.out)) hb); have n1_ := Aside0.mk (below_step (by repeat (first | (with_reducible first | exact HB.out | apply below_alloc | apply pw_below_drewN | apply below_drew1 | refine below_set ?_ (IsS53.ge HI143.out)) | exact HB.out)) hb); clear HI143; clear HB; have HI143 := n0_; have HB := n1_; clear n0_ n1_; (try clear hb); (try clear hb2); (try clear hk); (try clear hi)) | (go_at_call 8; (with_reducible refine (field_Put.calls k 256 1 t146 _ A7.out).mono ?_); rintro e w46 ⟨rfl, hb⟩; have n0_ := Aside0.mk (IsS53.below (by repeat (first | (with_reducible first | exact HI143.out | apply IsS53.alloc | apply IsS53.drewN | apply IsS53.drew | apply IsS53.set_0 | apply IsS53.set_1 | apply IsS53.set_2) | exact HI143.out)) hb); have n1_ := Aside0.mk (below_step (by repeat (first | (with_reducible first | exact HB.out | apply below_alloc | apply pw_below_drewN | apply below_drew1 | refine below_set ?_ (IsS53.ge HI143.out)) | exact HB.out)) hb); clear HI143; clear HB; have HI143 := n0_; have HB := n1_; clear n0_ n1_; (try clear hb); (try clear hb2); (try clear hk); (try clear hi)))
          go_ret
          exact ⟨by first | rfl | (simp [errW_none, errW_some] <;> rfl) | (simp [*, errW_none, errW_some] <;> rfl), by repeat (first | (with_reducible first | exact HB.out | apply below_alloc | apply pw_below_drewN | apply below_drew1 | refine below_set ?_ (IsS53.ge HI143.out)) | exact HB.out)⟩
      · rw [if_neg c8] at H
        have c8b0 : (t146.toList == ([] : List UInt8)) = false := beq_eq_false_iff_ne.mpr c8
        have c8b1 : (t146.toList != ([] : List UInt8)) = true := bne_iff_ne.mpr c8
        obtain rfl := Option.some.inj H
        go_enter Try.func12, Try.ntmps12
        go_wp2_with (first | ((with_reducible refine gate_callee (f := 25) rfl ?_); refine goesL_ (some 5) rfl rfl Try.func25 (by kernel_rfl) rfl #[.string (⟨#[0, 1, 2]⟩ : ByteArray), .int .i64 1, .int .i64 2] rfl (by (try simp only [List.map_toArray, List.map_cons, List.map_nil]); first | done | rfl | (simp only [List.length_drop, List.length_take]; rfl)) ?_; (with_reducible refine (field_Get.calls k (⟨#[0, 1, 2]⟩ : ByteArray) 1 2 t138 t139 _ A1.out).mono ?_); rintro e w47 ⟨rfl, hb⟩; refine ⟨_, rfl, ?_⟩; have n0_ := Aside0.mk (below_step (by repeat (first | (with_reducible first | exact HB.out | apply below_alloc | apply pw_below_drewN | apply below_drew1) | exact HB.out)) hb); clear HB; have HB := n0_; clear n0_; (try clear hb); (try clear hb2); (try clear hk); (try clear hi)) | ((with_reducible refine gate_callee (f := 13) rfl ?_); refine goesL_ (some 8) rfl rfl Try.func13 (by kernel_rfl) rfl #[.string (⟨#[1, 2, 3, 4, 5]⟩ : ByteArray)] rfl (by (try simp only [List.map_toArray, List.map_cons, List.map_nil]); first | done | rfl | (simp only [List.length_drop, List.length_take]; rfl)) ?_; (with_reducible refine (field_NewReader.calls (⟨#[1, 2, 3, 4, 5]⟩ : ByteArray) t140 t141 t142 w _ ?side1 A2.out).mono ?_); (case side1 => repeat (first | (with_reducible first | exact HB.out | apply below_alloc | apply pw_below_drewN | apply below_drew1) | exact HB.out)); rintro e w48 ⟨g143, rfl, hi, hb, hb2⟩; refine ⟨_, rfl, ?_⟩; have n0_ := Aside0.mk (hb); have n1_ := Aside0.mk (hi); clear HB; have HB := n0_; have HI143 := n1_; clear n0_ n1_; (try clear hb); (try clear hb2); (try clear hk); (try clear hi)) | ((with_reducible refine gate_callee (f := 8) rfl ?_); refine goesL_ (some 9) rfl rfl Try.func8 (by kernel_rfl) rfl #[.int .i64 258, .int .i64 3] rfl (by (try simp only [List.map_toArray, List.map_cons, List.map_nil]); first | done | rfl | (simp only [List.length_drop, List.length_take]; rfl)) ?_; (with_reducible refine (field_Put.calls k 258 3 t144 _ A3.out).mono ?_); rintro e w49 ⟨rfl, hb⟩; refine ⟨_, rfl, ?_⟩; have n0_ := Aside0.mk (IsS53.below (by repeat (first | (with_reducible first | exact HI143.out | apply IsS53.alloc | apply IsS53.drewN | apply IsS53.drew | apply IsS53.set_0 | apply IsS53.set_1 | apply IsS53.set_2) | exact HI143.out)) hb); have n1_ := Aside0.mk (below_step (by repeat (first | (with_reducible first | exact HB.out | apply below_alloc | apply pw_below_drewN | apply below_drew1 | refine below_set ?_ (IsS53.ge HI143.out)) | exact HB.out)) hb); clear HI143; clear HB; have HI143 := n0_; have HB := n1_; clear n0_ n1_; (try clear hb); (try clear hb2); (try clear hk); (try clear hi)) | (go_at_call 10; (with_reducible refine (field_PutLittle.calls k 258 3 t145 _ A5.out).mono ?_); rintro e w50 ⟨rfl, hb⟩; have n0_ := Aside0.mk (IsS53.below (by repeat (first | (with_reducible first | exact HI143.out | apply IsS53.alloc | apply IsS53.drewN | apply IsS53.drew | apply IsS53.set_0 | apply IsS53.set_1 | apply IsS53.set_2) | exact HI143.out)) hb); have n1_ := Aside0.mk (below_step (by repeat (first | (with_reducible first | exact HB.out | apply below_alloc | apply pw_below_drewN | apply below_drew1 | refine below_set ?_ (IsS53.ge HI143.out)) | exact HB.out)) hb); clear HI143; clear HB; have HI143 := n0_; have HB := n1_; clear n0_ n1_; (try clear hb); (try clear hb2); (try clear hk); (try clear hi)) | (go_at_call 8; (with_reducible refine (field_Put.calls k 256 1 t146 _ A7.out).mono ?_); rintro e w51 ⟨rfl, hb⟩; have n0_ := Aside0.mk (IsS53.below (by repeat (first | (with_reducible first | exact HI143.out | apply IsS53.alloc | apply IsS53.drewN | apply IsS53.drew | apply IsS53.set_0 | apply IsS53.set_1 | apply IsS53.set_2) | exact HI143.out)) hb); have n1_ := Aside0.mk (below_step (by repeat (first | (with_reducible first | exact HB.out | apply below_alloc | apply pw_below_drewN | apply below_drew1 | refine below_set ?_ (IsS53.ge HI143.out)) | exact HB.out)) hb); clear HI143; clear HB; have HI143 := n0_; have HB := n1_; clear n0_ n1_; (try clear hb); (try clear hb2); (try clear hk); (try clear hi)))
        go_ret
        exact ⟨by first | rfl | (simp [errW_none, errW_some] <;> rfl) | (simp [*, errW_none, errW_some] <;> rfl), by repeat (first | (with_reducible first | exact HB.out | apply below_alloc | apply pw_below_drewN | apply below_drew1 | refine below_set ?_ (IsS53.ge HI143.out)) | exact HB.out)⟩
    · rw [if_neg c6] at H
      have c6b0 : (t145.toList == ([2, 1, 0] : List UInt8)) = false := beq_eq_false_iff_ne.mpr c6
      have c6b1 : (t145.toList != ([2, 1, 0] : List UInt8)) = true := bne_iff_ne.mpr c6
      obtain rfl := Option.some.inj H
      go_enter Try.func12, Try.ntmps12
      go_wp2_with (first | ((with_reducible refine gate_callee (f := 25) rfl ?_); refine goesL_ (some 5) rfl rfl Try.func25 (by kernel_rfl) rfl #[.string (⟨#[0, 1, 2]⟩ : ByteArray), .int .i64 1, .int .i64 2] rfl (by (try simp only [List.map_toArray, List.map_cons, List.map_nil]); first | done | rfl | (simp only [List.length_drop, List.length_take]; rfl)) ?_; (with_reducible refine (field_Get.calls k (⟨#[0, 1, 2]⟩ : ByteArray) 1 2 t138 t139 _ A1.out).mono ?_); rintro e w52 ⟨rfl, hb⟩; refine ⟨_, rfl, ?_⟩; have n0_ := Aside0.mk (below_step (by repeat (first | (with_reducible first | exact HB.out | apply below_alloc | apply pw_below_drewN | apply below_drew1) | exact HB.out)) hb); clear HB; have HB := n0_; clear n0_; (try clear hb); (try clear hb2); (try clear hk); (try clear hi)) | ((with_reducible refine gate_callee (f := 13) rfl ?_); refine goesL_ (some 8) rfl rfl Try.func13 (by kernel_rfl) rfl #[.string (⟨#[1, 2, 3, 4, 5]⟩ : ByteArray)] rfl (by (try simp only [List.map_toArray, List.map_cons, List.map_nil]); first | done | rfl | (simp only [List.length_drop, List.length_take]; rfl)) ?_; (with_reducible refine (field_NewReader.calls (⟨#[1, 2, 3, 4, 5]⟩ : ByteArray) t140 t141 t142 w _ ?side1 A2.out).mono ?_); (case side1 => repeat (first | (with_reducible first | exact HB.out | apply below_alloc | apply pw_below_drewN | apply below_drew1) | exact HB.out)); rintro e w53 ⟨g143, rfl, hi, hb, hb2⟩; refine ⟨_, rfl, ?_⟩; have n0_ := Aside0.mk (hb); have n1_ := Aside0.mk (hi); clear HB; have HB := n0_; have HI143 := n1_; clear n0_ n1_; (try clear hb); (try clear hb2); (try clear hk); (try clear hi)) | ((with_reducible refine gate_callee (f := 8) rfl ?_); refine goesL_ (some 9) rfl rfl Try.func8 (by kernel_rfl) rfl #[.int .i64 258, .int .i64 3] rfl (by (try simp only [List.map_toArray, List.map_cons, List.map_nil]); first | done | rfl | (simp only [List.length_drop, List.length_take]; rfl)) ?_; (with_reducible refine (field_Put.calls k 258 3 t144 _ A3.out).mono ?_); rintro e w54 ⟨rfl, hb⟩; refine ⟨_, rfl, ?_⟩; have n0_ := Aside0.mk (IsS53.below (by repeat (first | (with_reducible first | exact HI143.out | apply IsS53.alloc | apply IsS53.drewN | apply IsS53.drew | apply IsS53.set_0 | apply IsS53.set_1 | apply IsS53.set_2) | exact HI143.out)) hb); have n1_ := Aside0.mk (below_step (by repeat (first | (with_reducible first | exact HB.out | apply below_alloc | apply pw_below_drewN | apply below_drew1 | refine below_set ?_ (IsS53.ge HI143.out)) | exact HB.out)) hb); clear HI143; clear HB; have HI143 := n0_; have HB := n1_; clear n0_ n1_; (try clear hb); (try clear hb2); (try clear hk); (try clear hi)) | (go_at_call 10; (with_reducible refine (field_PutLittle.calls k 258 3 t145 _ A5.out).mono ?_); rintro e w55 ⟨rfl, hb⟩; have n0_ := Aside0.mk (IsS53.below (by repeat (first | (with_reducible first | exact HI143.out | apply IsS53.alloc | apply IsS53.drewN | apply IsS53.drew | apply IsS53.set_0 | apply IsS53.set_1 | apply IsS53.set_2) | exact HI143.out)) hb); have n1_ := Aside0.mk (below_step (by repeat (first | (with_reducible first | exact HB.out | apply below_alloc | apply pw_below_drewN | apply below_drew1 | refine below_set ?_ (IsS53.ge HI143.out)) | exact HB.out)) hb); clear HI143; clear HB; have HI143 := n0_; have HB := n1_; clear n0_ n1_; (try clear hb); (try clear hb2); (try clear hk); (try clear hi)))
      go_ret
      exact ⟨by first | rfl | (simp [errW_none, errW_some] <;> rfl) | (simp [*, errW_none, errW_some] <;> rfl), by repeat (first | (with_reducible first | exact HB.out | apply below_alloc | apply pw_below_drewN | apply below_drew1 | refine below_set ?_ (IsS53.ge HI143.out)) | exact HB.out)⟩
  · rw [if_neg c4] at H
    have c4b0 : (t144.toList == ([0, 1, 2] : List UInt8)) = false := beq_eq_false_iff_ne.mpr c4
    have c4b1 : (t144.toList != ([0, 1, 2] : List UInt8)) = true := bne_iff_ne.mpr c4
    obtain rfl := Option.some.inj H
    go_enter Try.func12, Try.ntmps12
    go_wp2_with (first | ((with_reducible refine gate_callee (f := 25) rfl ?_); refine goesL_ (some 5) rfl rfl Try.func25 (by kernel_rfl) rfl #[.string (⟨#[0, 1, 2]⟩ : ByteArray), .int .i64 1, .int .i64 2] rfl (by (try simp only [List.map_toArray, List.map_cons, List.map_nil]); first | done | rfl | (simp only [List.length_drop, List.length_take]; rfl)) ?_; (with_reducible refine (field_Get.calls k (⟨#[0, 1, 2]⟩ : ByteArray) 1 2 t138 t139 _ A1.out).mono ?_); rintro e w56 ⟨rfl, hb⟩; refine ⟨_, rfl, ?_⟩; have n0_ := Aside0.mk (below_step (by repeat (first | (with_reducible first | exact HB.out | apply below_alloc | apply pw_below_drewN | apply below_drew1) | exact HB.out)) hb); clear HB; have HB := n0_; clear n0_; (try clear hb); (try clear hb2); (try clear hk); (try clear hi)) | ((with_reducible refine gate_callee (f := 13) rfl ?_); refine goesL_ (some 8) rfl rfl Try.func13 (by kernel_rfl) rfl #[.string (⟨#[1, 2, 3, 4, 5]⟩ : ByteArray)] rfl (by (try simp only [List.map_toArray, List.map_cons, List.map_nil]); first | done | rfl | (simp only [List.length_drop, List.length_take]; rfl)) ?_; (with_reducible refine (field_NewReader.calls (⟨#[1, 2, 3, 4, 5]⟩ : ByteArray) t140 t141 t142 w _ ?side1 A2.out).mono ?_); (case side1 => repeat (first | (with_reducible first | exact HB.out | apply below_alloc | apply pw_below_drewN | apply below_drew1) | exact HB.out)); rintro e w57 ⟨g143, rfl, hi, hb, hb2⟩; refine ⟨_, rfl, ?_⟩; have n0_ := Aside0.mk (hb); have n1_ := Aside0.mk (hi); clear HB; have HB := n0_; have HI143 := n1_; clear n0_ n1_; (try clear hb); (try clear hb2); (try clear hk); (try clear hi)) | ((with_reducible refine gate_callee (f := 8) rfl ?_); refine goesL_ (some 9) rfl rfl Try.func8 (by kernel_rfl) rfl #[.int .i64 258, .int .i64 3] rfl (by (try simp only [List.map_toArray, List.map_cons, List.map_nil]); first | done | rfl | (simp only [List.length_drop, List.length_take]; rfl)) ?_; (with_reducible refine (field_Put.calls k 258 3 t144 _ A3.out).mono ?_); rintro e w58 ⟨rfl, hb⟩; refine ⟨_, rfl, ?_⟩; have n0_ := Aside0.mk (IsS53.below (by repeat (first | (with_reducible first | exact HI143.out | apply IsS53.alloc | apply IsS53.drewN | apply IsS53.drew | apply IsS53.set_0 | apply IsS53.set_1 | apply IsS53.set_2) | exact HI143.out)) hb); have n1_ := Aside0.mk (below_step (by repeat (first | (with_reducible first | exact HB.out | apply below_alloc | apply pw_below_drewN | apply below_drew1 | refine below_set ?_ (IsS53.ge HI143.out)) | exact HB.out)) hb); clear HI143; clear HB; have HI143 := n0_; have HB := n1_; clear n0_ n1_; (try clear hb); (try clear hb2); (try clear hk); (try clear hi)))
    go_ret
    exact ⟨by first | rfl | (simp [errW_none, errW_some] <;> rfl) | (simp [*, errW_none, errW_some] <;> rfl), by repeat (first | (with_reducible first | exact HB.out | apply below_alloc | apply pw_below_drewN | apply below_drew1 | refine below_set ?_ (IsS53.ge HI143.out)) | exact HB.out)⟩

/-! ### intrusionlaw01_FieldPuts: function 3 -/
def intrusionlaw01_FieldPuts.f (k : Nat) (a0 : Int) (a1 : Int) : Option (Bool) := (field_Put.f k a0 a1).bind fun t159 => ((intrusionref01_Put.f k a0 a1).bind fun t160 => (if t159.toList = t160.toList then ((field_PutLittle.f k a0 a1).bind fun t161 => ((intrusionref01_PutLittle.f k a0 a1).bind fun t162 => (if t161.toList = t162.toList then ((intrusionlaw01_awake.f k).bind fun t163 => (some t163)) else (some false)))) else (some false)))
theorem intrusionlaw01_FieldPuts.mono : ∀ a0 a1 k, LeO (intrusionlaw01_FieldPuts.f k a0 a1) (intrusionlaw01_FieldPuts.f (k + 1) a0 a1) := by
  intro a0 a1 k
  unfold intrusionlaw01_FieldPuts.f
  repeat' first
      | (with_reducible exact field_Put.mono _ _ _)
      | (with_reducible exact field_PutLittle.mono _ _ _)
      | (with_reducible exact intrusionlaw01_awake.mono _)
      | (with_reducible exact intrusionref01_Put.mono _ _ _)
      | (with_reducible exact intrusionref01_PutLittle.mono _ _ _)
      | (with_reducible exact LeO.refl _)
      | (with_reducible exact LeO.none _)
      | (with_reducible refine LeO.ite ?_ ?_)
      | (with_reducible refine LeO.bind ?_ (fun _ => ?_))
      | exact field_Put.mono _ _ _
      | exact field_PutLittle.mono _ _ _
      | exact intrusionlaw01_awake.mono _
      | exact intrusionref01_Put.mono _ _ _
      | exact intrusionref01_PutLittle.mono _ _ _
      | exact LeO.none _
      | refine LeO.ite ?_ ?_
      | refine LeO.bind ?_ (fun _ => ?_)
set_option maxHeartbeats 8000000 in
set_option maxRecDepth 100000 in
theorem intrusionlaw01_FieldPuts.calls (k : Nat) (a0 : Int) (a1 : Int) (r : Bool) (w : World) (h : intrusionlaw01_FieldPuts.f k a0 a1 = some r) :
    Calls Try.prog 3 #[.int .i64 a0, .int .i64 a1] w fun e w' => e = .returned (.bool r) ∧ Below w.heap.size w w' := by
  have HB := Aside0.mk (Below.refl w.heap.size w)
  have H : ((field_Put.f k a0 a1).bind fun t159 => ((intrusionref01_Put.f k a0 a1).bind fun t160 => (if t159.toList = t160.toList then ((field_PutLittle.f k a0 a1).bind fun t161 => ((intrusionref01_PutLittle.f k a0 a1).bind fun t162 => (if t161.toList = t162.toList then ((intrusionlaw01_awake.f k).bind fun t163 => (some t163)) else (some false)))) else (some false)))) = some r := h
  clear h
  replace H := Option.bind_eq_some_iff.mp H
  obtain ⟨t159, A30, H⟩ := H
  replace H : ((intrusionref01_Put.f k a0 a1).bind fun t160 => (if t159.toList = t160.toList then ((field_PutLittle.f k a0 a1).bind fun t161 => ((intrusionref01_PutLittle.f k a0 a1).bind fun t162 => (if t161.toList = t162.toList then ((intrusionlaw01_awake.f k).bind fun t163 => (some t163)) else (some false)))) else (some false))) = some r := H
  have A3 := Aside0.mk A30
  clear A30
  replace H := Option.bind_eq_some_iff.mp H
  obtain ⟨t160, A40, H⟩ := H
  replace H : (if t159.toList = t160.toList then ((field_PutLittle.f k a0 a1).bind fun t161 => ((intrusionref01_PutLittle.f k a0 a1).bind fun t162 => (if t161.toList = t162.toList then ((intrusionlaw01_awake.f k).bind fun t163 => (some t163)) else (some false)))) else (some false)) = some r := H
  have A4 := Aside0.mk A40
  clear A40
  by_cases c5 : t159.toList = t160.toList
  · rw [if_pos c5] at H
    have c5b0 : (t159.toList == t160.toList) = true := beq_iff_eq.mpr c5
    have c5b1 : (t159.toList != t160.toList) = false := bne_eq_false_iff_eq.mpr c5
    clear c5
    replace H := Option.bind_eq_some_iff.mp H
    obtain ⟨t161, A60, H⟩ := H
    replace H : ((intrusionref01_PutLittle.f k a0 a1).bind fun t162 => (if t161.toList = t162.toList then ((intrusionlaw01_awake.f k).bind fun t163 => (some t163)) else (some false))) = some r := H
    have A6 := Aside0.mk A60
    clear A60
    replace H := Option.bind_eq_some_iff.mp H
    obtain ⟨t162, A70, H⟩ := H
    replace H : (if t161.toList = t162.toList then ((intrusionlaw01_awake.f k).bind fun t163 => (some t163)) else (some false)) = some r := H
    have A7 := Aside0.mk A70
    clear A70
    by_cases c8 : t161.toList = t162.toList
    · rw [if_pos c8] at H
      have c8b0 : (t161.toList == t162.toList) = true := beq_iff_eq.mpr c8
      have c8b1 : (t161.toList != t162.toList) = false := bne_eq_false_iff_eq.mpr c8
      clear c8
      replace H := Option.bind_eq_some_iff.mp H
      obtain ⟨t163, A90, H⟩ := H
      replace H : (some t163) = some r := H
      have A9 := Aside0.mk A90
      clear A90
      obtain rfl := Option.some.inj H
      go_enter Try.func3, Try.ntmps3
      go_wp2_with (first | ((with_reducible refine gate_callee (f := 8) rfl ?_); refine goesL_ (some 7) rfl rfl Try.func8 (by kernel_rfl) rfl #[.int .i64 a0, .int .i64 a1] rfl (by (try simp only [List.map_toArray, List.map_cons, List.map_nil]); first | done | rfl | (simp only [List.length_drop, List.length_take]; rfl)) ?_; (with_reducible refine (field_Put.calls k a0 a1 t159 _ A3.out).mono ?_); rintro e w10 ⟨rfl, hb⟩; refine ⟨_, rfl, ?_⟩; have n0_ := Aside0.mk (below_step (by repeat (first | (with_reducible first | exact HB.out | apply below_alloc | apply pw_below_drewN | apply below_drew1) | exact HB.out)) hb); clear HB; have HB := n0_; clear n0_; (try clear hb); (try clear hb2); (try clear hk); (try clear hi)) | ((with_reducible refine gate_callee (f := 9) rfl ?_); refine goesL_ (some 10) rfl rfl Try.func9 (by kernel_rfl) rfl #[.int .i64 a0, .int .i64 a1] rfl (by (try simp only [List.map_toArray, List.map_cons, List.map_nil]); first | done | rfl | (simp only [List.length_drop, List.length_take]; rfl)) ?_; (with_reducible refine (intrusionref01_Put.calls k a0 a1 t160 _ A4.out).mono ?_); rintro e w11 ⟨rfl, hb⟩; refine ⟨_, rfl, ?_⟩; have n0_ := Aside0.mk (below_step (by repeat (first | (with_reducible first | exact HB.out | apply below_alloc | apply pw_below_drewN | apply below_drew1) | exact HB.out)) hb); clear HB; have HB := n0_; clear n0_; (try clear hb); (try clear hb2); (try clear hk); (try clear hi)) | (go_at_call 10; (with_reducible refine (field_PutLittle.calls k a0 a1 t161 _ A6.out).mono ?_); rintro e w12 ⟨rfl, hb⟩; have n0_ := Aside0.mk (below_step (by repeat (first | (with_reducible first | exact HB.out | apply below_alloc | apply pw_below_drewN | apply below_drew1) | exact HB.out)) hb); clear HB; have HB := n0_; clear n0_; (try clear hb); (try clear hb2); (try clear hk); (try clear hi)) | (go_at_call 11; (with_reducible refine (intrusionref01_PutLittle.calls k a0 a1 t162 _ A7.out).mono ?_); rintro e w13 ⟨rfl, hb⟩; have n0_ := Aside0.mk (below_step (by repeat (first | (with_reducible first | exact HB.out | apply below_alloc | apply pw_below_drewN | apply below_drew1) | exact HB.out)) hb); clear HB; have HB := n0_; clear n0_; (try clear hb); (try clear hb2); (try clear hk); (try clear hi)) | (go_at_call 12; (with_reducible refine (intrusionlaw01_awake.calls k  t163 _ A9.out).mono ?_); rintro e w14 ⟨rfl, hb⟩; have n0_ := Aside0.mk (below_step (by repeat (first | (with_reducible first | exact HB.out | apply below_alloc | apply pw_below_drewN | apply below_drew1) | exact HB.out)) hb); clear HB; have HB := n0_; clear n0_; (try clear hb); (try clear hb2); (try clear hk); (try clear hi)))
      go_ret
      exact ⟨by first | rfl | (simp [errW_none, errW_some] <;> rfl) | (simp [*, errW_none, errW_some] <;> rfl), by repeat (first | (with_reducible first | exact HB.out | apply below_alloc | apply pw_below_drewN | apply below_drew1) | exact HB.out)⟩
    · rw [if_neg c8] at H
      have c8b0 : (t161.toList == t162.toList) = false := beq_eq_false_iff_ne.mpr c8
      have c8b1 : (t161.toList != t162.toList) = true := bne_iff_ne.mpr c8
      obtain rfl := Option.some.inj H
      go_enter Try.func3, Try.ntmps3
      go_wp2_with (first | ((with_reducible refine gate_callee (f := 8) rfl ?_); refine goesL_ (some 7) rfl rfl Try.func8 (by kernel_rfl) rfl #[.int .i64 a0, .int .i64 a1] rfl (by (try simp only [List.map_toArray, List.map_cons, List.map_nil]); first | done | rfl | (simp only [List.length_drop, List.length_take]; rfl)) ?_; (with_reducible refine (field_Put.calls k a0 a1 t159 _ A3.out).mono ?_); rintro e w15 ⟨rfl, hb⟩; refine ⟨_, rfl, ?_⟩; have n0_ := Aside0.mk (below_step (by repeat (first | (with_reducible first | exact HB.out | apply below_alloc | apply pw_below_drewN | apply below_drew1) | exact HB.out)) hb); clear HB; have HB := n0_; clear n0_; (try clear hb); (try clear hb2); (try clear hk); (try clear hi)) | ((with_reducible refine gate_callee (f := 9) rfl ?_); refine goesL_ (some 10) rfl rfl Try.func9 (by kernel_rfl) rfl #[.int .i64 a0, .int .i64 a1] rfl (by (try simp only [List.map_toArray, List.map_cons, List.map_nil]); first | done | rfl | (simp only [List.length_drop, List.length_take]; rfl)) ?_; (with_reducible refine (intrusionref01_Put.calls k a0 a1 t160 _ A4.out).mono ?_); rintro e w16 ⟨rfl, hb⟩; refine ⟨_, rfl, ?_⟩; have n0_ := Aside0.mk (below_step (by repeat (first | (with_reducible first | exact HB.out | apply below_alloc | apply pw_below_drewN | apply below_drew1) | exact HB.out)) hb); clear HB; have HB := n0_; clear n0_; (try clear hb); (try clear hb2); (try clear hk); (try clear hi)) | (go_at_call 10; (with_reducible refine (field_PutLittle.calls k a0 a1 t161 _ A6.out).mono ?_); rintro e w17 ⟨rfl, hb⟩; have n0_ := Aside0.mk (below_step (by repeat (first | (with_reducible first | exact HB.out | apply below_alloc | apply pw_below_drewN | apply below_drew1) | exact HB.out)) hb); clear HB; have HB := n0_; clear n0_; (try clear hb); (try clear hb2); (try clear hk); (try clear hi)) | (go_at_call 11; (with_reducible refine (intrusionref01_PutLittle.calls k a0 a1 t162 _ A7.out).mono ?_); rintro e w18 ⟨rfl, hb⟩; have n0_ := Aside0.mk (below_step (by repeat (first | (with_reducible first | exact HB.out | apply below_alloc | apply pw_below_drewN | apply below_drew1) | exact HB.out)) hb); clear HB; have HB := n0_; clear n0_; (try clear hb); (try clear hb2); (try clear hk); (try clear hi)))
      go_ret
      exact ⟨by first | rfl | (simp [errW_none, errW_some] <;> rfl) | (simp [*, errW_none, errW_some] <;> rfl), by repeat (first | (with_reducible first | exact HB.out | apply below_alloc | apply pw_below_drewN | apply below_drew1) | exact HB.out)⟩
  · rw [if_neg c5] at H
    have c5b0 : (t159.toList == t160.toList) = false := beq_eq_false_iff_ne.mpr c5
    have c5b1 : (t159.toList != t160.toList) = true := bne_iff_ne.mpr c5
    obtain rfl := Option.some.inj H
    go_enter Try.func3, Try.ntmps3
    go_wp2_with (first | ((with_reducible refine gate_callee (f := 8) rfl ?_); refine goesL_ (some 7) rfl rfl Try.func8 (by kernel_rfl) rfl #[.int .i64 a0, .int .i64 a1] rfl (by (try simp only [List.map_toArray, List.map_cons, List.map_nil]); first | done | rfl | (simp only [List.length_drop, List.length_take]; rfl)) ?_; (with_reducible refine (field_Put.calls k a0 a1 t159 _ A3.out).mono ?_); rintro e w19 ⟨rfl, hb⟩; refine ⟨_, rfl, ?_⟩; have n0_ := Aside0.mk (below_step (by repeat (first | (with_reducible first | exact HB.out | apply below_alloc | apply pw_below_drewN | apply below_drew1) | exact HB.out)) hb); clear HB; have HB := n0_; clear n0_; (try clear hb); (try clear hb2); (try clear hk); (try clear hi)) | ((with_reducible refine gate_callee (f := 9) rfl ?_); refine goesL_ (some 10) rfl rfl Try.func9 (by kernel_rfl) rfl #[.int .i64 a0, .int .i64 a1] rfl (by (try simp only [List.map_toArray, List.map_cons, List.map_nil]); first | done | rfl | (simp only [List.length_drop, List.length_take]; rfl)) ?_; (with_reducible refine (intrusionref01_Put.calls k a0 a1 t160 _ A4.out).mono ?_); rintro e w20 ⟨rfl, hb⟩; refine ⟨_, rfl, ?_⟩; have n0_ := Aside0.mk (below_step (by repeat (first | (with_reducible first | exact HB.out | apply below_alloc | apply pw_below_drewN | apply below_drew1) | exact HB.out)) hb); clear HB; have HB := n0_; clear n0_; (try clear hb); (try clear hb2); (try clear hk); (try clear hi)))
    go_ret
    exact ⟨by first | rfl | (simp [errW_none, errW_some] <;> rfl) | (simp [*, errW_none, errW_some] <;> rfl), by repeat (first | (with_reducible first | exact HB.out | apply below_alloc | apply pw_below_drewN | apply below_drew1) | exact HB.out)⟩

/-! ### field_Reader_Rest: function 19 -/
def field_Reader_Rest.f (s0_0 : ByteArray) (s0_1 : Int) (s0_2 : Int) : Option (ByteArray × ByteArray × Int × Int) := (field_Reader_Left.f s0_0 s0_1 s0_2).bind fun bt164 => ((field_Reader_next.f bt164.2.1 bt164.2.2.1 bt164.2.2.2 bt164.1 true).bind fun bt168 => (some (bt168.1, bt168.2.1, bt168.2.2.1, bt168.2.2.2)))
set_option maxHeartbeats 8000000 in
set_option maxRecDepth 100000 in
theorem field_Reader_Rest.calls (g : Nat) (s0_0 : ByteArray) (s0_1 : Int) (s0_2 : Int) (r1 : ByteArray) (r2 : ByteArray) (r3 : Int) (r4 : Int) (w0 w : World) (hI : IsS53 w0 w g s0_0 s0_1 s0_2) (hB : Below w0.heap.size w0 w) (h : field_Reader_Rest.f s0_0 s0_1 s0_2 = some (r1, r2, r3, r4)) :
    Calls Try.prog 19 #[.pointer (some ⟨g, 0, none⟩)] w fun e w' => e = .returned (.string r1) ∧ IsS53 w0 w' g r2 r3 r4 ∧ Below w0.heap.size w0 w' ∧ KeepBut w w' g none := by
  have HI0 := Aside0.mk hI
  have HK := Aside0.mk (KeepBut.refl w g none)
  have HL := Aside0.mk hB.size
  clear hI
  have HW0 := Aside0.mk hB.size
  have HB := Aside0.mk hB
  clear hB
  have H : ((field_Reader_Left.f s0_0 s0_1 s0_2).bind fun bt164 => ((field_Reader_next.f bt164.2.1 bt164.2.2.1 bt164.2.2.2 bt164.1 true).bind fun bt168 => (some (bt168.1, bt168.2.1, bt168.2.2.1, bt168.2.2.2)))) = some (r1, r2, r3, r4) := h
  clear h
  replace H := Option.bind_eq_some_iff.mp H
  obtain ⟨⟨t164, t165, t166, t167⟩, A20, H⟩ := H
  replace H : ((field_Reader_next.f t165 t166 t167 t164 true).bind fun bt168 => (some (bt168.1, bt168.2.1, bt168.2.2.1, bt168.2.2.2))) = some (r1, r2, r3, r4) := H
  have A2 := Aside0.mk A20
  clear A20
  replace H := Option.bind_eq_some_iff.mp H
  obtain ⟨⟨t168, t169, t170, t171⟩, A30, H⟩ := H
  replace H : (some (t168, t169, t170, t171)) = some (r1, r2, r3, r4) := H
  have A3 := Aside0.mk A30
  clear A30
  simp only [Option.some.injEq, Prod.mk.injEq] at H
  obtain ⟨rfl, rfl, rfl, rfl⟩ := H
  go_enter Try.func19, Try.ntmps19
  go_wp2_with (first | ((with_reducible refine gate_callee (f := 21) rfl ?_); refine goesL_ (some 5) rfl rfl Try.func21 (by kernel_rfl) rfl #[.pointer (some ⟨g, 0, none⟩)] rfl (by (try simp only [List.map_toArray, List.map_cons, List.map_nil]); first | done | rfl | (simp only [List.length_drop, List.length_take]; rfl)) ?_; (with_reducible refine (field_Reader_Left.calls g s0_0 s0_1 s0_2 t164 t165 t166 t167 w0 _ ?side1 ?side2 A2.out).mono ?_); (case side1 => repeat (first | (with_reducible first | exact HI0.out | apply IsS53.alloc | apply IsS53.drewN | apply IsS53.drew | apply IsS53.set_0 | apply IsS53.set_1 | apply IsS53.set_2) | exact HI0.out)); (case side2 => repeat (first | (with_reducible first | exact HB.out | apply below_alloc | apply pw_below_drewN | apply below_drew1 | refine below_set ?_ (IsS53.ge HI0.out)) | exact HB.out)); rintro e w4 ⟨rfl, hi, hb, hk⟩; refine ⟨_, rfl, ?_⟩; have n0_ := Aside0.mk (KeepBut.trans (by repeat (first | (with_reducible first | exact HK.out | apply KeepBut.set_ | apply keep_drewN | apply keep_drew | apply keep_alloc) | exact HK.out)) hk (.inl rfl)); have n1_ := Aside0.mk (hb); have n2_ := Aside0.mk (hi); clear HK; clear HB; clear HI0; have HK := n0_; have HB := n1_; have HI0 := n2_; clear n0_ n1_ n2_; (try clear hb); (try clear hb2); (try clear hk); (try clear hi)) | ((with_reducible refine gate_callee (f := 34) rfl ?_); refine goesL_ (some 6) rfl rfl Try.func34 (by kernel_rfl) rfl #[.pointer (some ⟨g, 0, none⟩), .int .i64 t164, .bool true] rfl (by (try simp only [List.map_toArray, List.map_cons, List.map_nil]); first | done | rfl | (simp only [List.length_drop, List.length_take]; rfl)) ?_; (with_reducible refine (field_Reader_next.calls g t165 t166 t167 t164 true t168 t169 t170 t171 w0 _ ?side1 ?side2 A3.out).mono ?_); (case side1 => repeat (first | (with_reducible first | exact HI0.out | apply IsS53.alloc | apply IsS53.drewN | apply IsS53.drew | apply IsS53.set_0 | apply IsS53.set_1 | apply IsS53.set_2) | exact HI0.out)); (case side2 => repeat (first | (with_reducible first | exact HB.out | apply below_alloc | apply pw_below_drewN | apply below_drew1 | refine below_set ?_ (IsS53.ge HI0.out)) | exact HB.out)); rintro e w5 ⟨rfl, hi, hb, hk⟩; refine ⟨_, rfl, ?_⟩; have n0_ := Aside0.mk (KeepBut.trans (by repeat (first | (with_reducible first | exact HK.out | apply KeepBut.set_ | apply keep_drewN | apply keep_drew | apply keep_alloc) | exact HK.out)) hk (.inl rfl)); have n1_ := Aside0.mk (hb); have n2_ := Aside0.mk (hi); clear HK; clear HB; clear HI0; have HK := n0_; have HB := n1_; have HI0 := n2_; clear n0_ n1_ n2_; (try clear hb); (try clear hb2); (try clear hk); (try clear hi)))
  go_ret
  exact ⟨by first | rfl | (simp [errW_none, errW_some] <;> rfl) | (simp [*, errW_none, errW_some] <;> rfl), by repeat (first | (with_reducible first | exact HI0.out | apply IsS53.alloc | apply IsS53.drewN | apply IsS53.drew | apply IsS53.set_0 | apply IsS53.set_1 | apply IsS53.set_2) | exact HI0.out), by repeat (first | (with_reducible first | exact HB.out | apply below_alloc | apply pw_below_drewN | apply below_drew1 | refine below_set ?_ (IsS53.ge HI0.out)) | exact HB.out), by repeat (first | (with_reducible first | exact HK.out | apply KeepBut.set_ | apply keep_drewN | apply keep_drew | apply keep_alloc) | exact HK.out)⟩

/-! ### field_Reader_Err: function 23 -/
def field_Reader_Err.f (s0_0 : ByteArray) (s0_1 : Int) (s0_2 : Int) : Option (Int × ByteArray × Int × Int) := some (s0_2, s0_0, s0_1, s0_2)
set_option maxHeartbeats 8000000 in
set_option maxRecDepth 100000 in
theorem field_Reader_Err.calls (g : Nat) (s0_0 : ByteArray) (s0_1 : Int) (s0_2 : Int) (r1 : Int) (r2 : ByteArray) (r3 : Int) (r4 : Int) (w0 w : World) (hI : IsS53 w0 w g s0_0 s0_1 s0_2) (hB : Below w0.heap.size w0 w) (h : field_Reader_Err.f s0_0 s0_1 s0_2 = some (r1, r2, r3, r4)) :
    Calls Try.prog 23 #[.pointer (some ⟨g, 0, none⟩)] w fun e w' => e = .returned (.int .i64 r1) ∧ IsS53 w0 w' g r2 r3 r4 ∧ Below w0.heap.size w0 w' ∧ KeepBut w w' g none := by
  have HI0 := Aside0.mk hI
  have HK := Aside0.mk (KeepBut.refl w g none)
  have HL := Aside0.mk hB.size
  clear hI
  have HW0 := Aside0.mk hB.size
  have HB := Aside0.mk hB
  clear hB
  have H : (some (s0_2, s0_0, s0_1, s0_2)) = some (r1, r2, r3, r4) := h
  clear h
  simp only [Option.some.injEq, Prod.mk.injEq] at H
  obtain ⟨rfl, rfl, rfl, rfl⟩ := H
  obtain ⟨HGz2, hgz2⟩ := HI0.out
  have hcz2_0 := cellS53_0 HGz2
  have hcz2_1 := cellS53_1 HGz2
  have hcz2_2 := cellS53_2 HGz2
  have hfz2_0 := blk_frozen HGz2 0
  have hfz2_1 := blk_frozen HGz2 1
  have hfz2_2 := blk_frozen HGz2 2
  clear HGz2 hgz2
  go_enter Try.func23, Try.ntmps23
  go_wp2
  go_ret
  exact ⟨by first | rfl | (simp [errW_none, errW_some] <;> rfl) | (simp [*, errW_none, errW_some] <;> rfl), by repeat (first | (with_reducible first | exact HI0.out | apply IsS53.alloc | apply IsS53.drewN | apply IsS53.drew | apply IsS53.set_0 | apply IsS53.set_1 | apply IsS53.set_2) | exact HI0.out), by repeat (first | (with_reducible first | exact HB.out | apply below_alloc | apply pw_below_drewN | apply below_drew1 | refine below_set ?_ (IsS53.ge HI0.out)) | exact HB.out), by repeat (first | (with_reducible first | exact HK.out | apply KeepBut.set_ | apply keep_drewN | apply keep_drew | apply keep_alloc) | exact HK.out)⟩

end Go.Proofs.Ytmkhmlgihkaphaa.X
