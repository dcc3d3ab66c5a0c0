/- Functions and their walks, printed by xprint.py. -/
import Derived.Test.YtafjmciojeondaaX0
import Derived.Test.YtafjmciojeondaaX15
namespace Go.Proofs.Ytafjmciojeondaa.X
open Go.RowKit Go.Proofs.YtafjmciojeondaaW.PrintWords Go.Proofs.YtafjmciojeondaaW.PrintLast Go.Proofs.YtafjmciojeondaaW.PrintMore
attribute [local go_sem] max2_int min2_int max_two min_two max_three min_three max_four min_four   -- for this text's walks alone
set_option linter.unusedVariables false
set_option linter.unusedSimpArgs false

/-! ### intrusionref09_Write: function 17 -/
mutual
def intrusionref09_Write.l0 : Nat → List (S33) → ByteArray → Int → Option (ByteArray × Int)
 | 0, _, _, _ => none
 | k + 1, x0, x4, x5 => if x5 < (x0.length : Int) then (if 0 ≤ x5 then (if (((rd_T33 x0 x5).f2).size : Int) > 4096 then (some ((⟨#[]⟩ : ByteArray), 3)) else (if ((rd_T33 x0 x5).f0) < 0 then (intrusionref09_Write.j1 k x0 x4 x5 true ((rd_T33 x0 x5).f0) ((rd_T33 x0 x5).f1) ((rd_T33 x0 x5).f2)) else (if ((rd_T33 x0 x5).f0) > 1099511627776 then (intrusionref09_Write.j1 k x0 x4 x5 true ((rd_T33 x0 x5).f0) ((rd_T33 x0 x5).f1) ((rd_T33 x0 x5).f2)) else (if ((rd_T33 x0 x5).f1) < (((rd_T33 x0 x5).f2).size : Int) then (intrusionref09_Write.j1 k x0 x4 x5 true ((rd_T33 x0 x5).f0) ((rd_T33 x0 x5).f1) ((rd_T33 x0 x5).f2)) else (intrusionref09_Write.j1 k x0 x4 x5 (decide (((rd_T33 x0 x5).f1) > 65535)) ((rd_T33 x0 x5).f0) ((rd_T33 x0 x5).f1) ((rd_T33 x0 x5).f2)))))) else (none)) else (some (x4, 0))
def intrusionref09_Write.j2 : Nat → List (S33) → ByteArray → Int → Int → Int → ByteArray → Option (ByteArray × Int)
 | 0, _, _, _, _, _, _ => none
 | k + 1, x0, x4, x5, x388000, x388001, x388002 => (intrusionref09_put.f k (wrap64 (Int.tdiv x388000 1000)) 4).bind fun t389 => ((intrusionref09_put.f k (wrap64 ((Int.tmod x388000 1000) * 1000)) 4).bind fun t390 => (if t389.size + t390.size ≤ 9223372036854775807 then ((intrusionref09_put.f k (x388002.size : Int) 4).bind fun t391 => (if (t389 ++ t390).size + t391.size ≤ 9223372036854775807 then ((intrusionref09_put.f k x388001 4).bind fun t392 => (if ((t389 ++ t390) ++ t391).size + t392.size ≤ 9223372036854775807 then (if (((t389 ++ t390) ++ t391) ++ t392).size + x388002.size ≤ 9223372036854775807 then (if x4.size + ((((t389 ++ t390) ++ t391) ++ t392) ++ x388002).size ≤ 9223372036854775807 then (intrusionref09_Write.l0 k x0 (x4 ++ ((((t389 ++ t390) ++ t391) ++ t392) ++ x388002)) (wrap64 (x5 + 1))) else (none)) else (none)) else (none))) else (none))) else (none)))
def intrusionref09_Write.j1 : Nat → List (S33) → ByteArray → Int → Bool → Int → Int → ByteArray → Option (ByteArray × Int)
 | 0, _, _, _, _, _, _, _ => none
 | k + 1, x0, x4, x5, x38, x388000, x388001, x388002 => if x38 = true then (some ((⟨#[]⟩ : ByteArray), 4)) else (if x5 > 0 then (if 0 ≤ (wrap64 (x5 - 1)) then (if (wrap64 (x5 - 1)) < (x0.length : Int) then (if x388000 < ((rd_T33 x0 (wrap64 (x5 - 1))).f0) then (some ((⟨#[]⟩ : ByteArray), 12)) else (intrusionref09_Write.j2 k x0 x4 x5 x388000 x388001 x388002)) else (none)) else (none)) else (intrusionref09_Write.j2 k x0 x4 x5 x388000 x388001 x388002))
end
def intrusionref09_Write.f (k : Nat) (l0 : List (S33)) : Option (ByteArray × Int) := if (l0.length : Int) > 2000 then (some ((⟨#[]⟩ : ByteArray), 3)) else ((intrusionref09_put.f k 2712847316 4).bind fun t379 => ((intrusionref09_put.f k 2 2).bind fun t380 => (if t379.size + t380.size ≤ 9223372036854775807 then ((intrusionref09_put.f k 4 2).bind fun t381 => (if (t379 ++ t380).size + t381.size ≤ 9223372036854775807 then ((intrusionref09_put.f k 0 4).bind fun t382 => (if ((t379 ++ t380) ++ t381).size + t382.size ≤ 9223372036854775807 then ((intrusionref09_put.f k 0 4).bind fun t383 => (if (((t379 ++ t380) ++ t381) ++ t382).size + t383.size ≤ 9223372036854775807 then ((intrusionref09_put.f k 4096 4).bind fun t384 => (if ((((t379 ++ t380) ++ t381) ++ t382) ++ t383).size + t384.size ≤ 9223372036854775807 then ((intrusionref09_put.f k 1 4).bind fun t385 => (if (((((t379 ++ t380) ++ t381) ++ t382) ++ t383) ++ t384).size + t385.size ≤ 9223372036854775807 then (intrusionref09_Write.l0 k l0 ((((((t379 ++ t380) ++ t381) ++ t382) ++ t383) ++ t384) ++ t385) 0) else (none))) else (none))) else (none))) else (none))) else (none))) else (none))))
theorem intrusionref09_Write.mono_l : ∀ k, (∀ y0 y1 y2, LeO (intrusionref09_Write.l0 k y0 y1 y2) (intrusionref09_Write.l0 (k + 1) y0 y1 y2)) ∧ (∀ y0 y1 y2 y3 y4 y5, LeO (intrusionref09_Write.j2 k y0 y1 y2 y3 y4 y5) (intrusionref09_Write.j2 (k + 1) y0 y1 y2 y3 y4 y5)) ∧ (∀ y0 y1 y2 y3 y4 y5 y6, LeO (intrusionref09_Write.j1 k y0 y1 y2 y3 y4 y5 y6) (intrusionref09_Write.j1 (k + 1) y0 y1 y2 y3 y4 y5 y6))
 | 0 => ⟨fun _ _ _ r h => by simp [intrusionref09_Write.l0] at h, fun _ _ _ _ _ _ r h => by simp [intrusionref09_Write.j2] at h, fun _ _ _ _ _ _ _ r h => by simp [intrusionref09_Write.j1] at h⟩
 | k + 1 => by
  obtain ⟨ih0, ih1, ih2⟩ := intrusionref09_Write.mono_l k
  refine ⟨?_, ?_, ?_⟩
  ·intro y0 y1 y2
   unfold intrusionref09_Write.l0
   repeat' first | with_reducible first | apply ih0 | apply ih1 | apply ih2 | apply intrusionref09_put.mono | apply LeO.refl | apply LeO.none | refine LeO.ite ?_ ?_ | refine LeO.bind ?_ (fun _ => ?_)
  ·intro y0 y1 y2 y3 y4 y5
   unfold intrusionref09_Write.j2
   repeat' first | with_reducible first | apply ih0 | apply ih1 | apply ih2 | apply intrusionref09_put.mono | apply LeO.refl | apply LeO.none | refine LeO.ite ?_ ?_ | refine LeO.bind ?_ (fun _ => ?_)
  intro y0 y1 y2 y3 y4 y5 y6
  unfold intrusionref09_Write.j1
  repeat' first | with_reducible first | apply ih0 | apply ih1 | apply ih2 | apply intrusionref09_put.mono | apply LeO.refl | apply LeO.none | refine LeO.ite ?_ ?_ | refine LeO.bind ?_ (fun _ => ?_)
theorem intrusionref09_Write.mono : ∀ a0 k, LeO (intrusionref09_Write.f k a0) (intrusionref09_Write.f (k + 1) a0) := by
 intro a0 k
 obtain ⟨ih0, ih1, ih2⟩ := intrusionref09_Write.mono_l k
 unfold intrusionref09_Write.f
 repeat' first | with_reducible first | apply ih0 | apply ih1 | apply ih2 | apply intrusionref09_put.mono | apply LeO.refl | apply LeO.none | refine LeO.ite ?_ ?_ | refine LeO.bind ?_ (fun _ => ?_)
def intrusionref09_Write.T12 : Bool × List (List Nat × List Nat) := (true, [([], []), ([0], [0]), ([1], [1]), ([2], [2]), ([3, 2], [2, 3]), ([2], [2]), ([2], [2]), ([6, 2], [2, 6]), ([5, 7, 2], [2, 5, 7]), ([8, 2], [2, 8]), ([9, 2], [2, 9]), ([4, 10, 2], [2, 4, 10]), ([2, 11], [2, 11]), ([12, 2], [12])])
def intrusionref09_Write.B12 : List Nat := [0, 1, 3, 7, 15, 7, 7, 71, 231, 487, 999, 2047, 4095, 8191]
theorem intrusionref09_Write.tab12 : rtab .any (opsOf Try.f17 12) = intrusionref09_Write.T12 := by kernel_rfl
theorem intrusionref09_Write.bits12 : waitsOk intrusionref09_Write.T12.2 intrusionref09_Write.B12 = true := by kernel_rfl
def intrusionref09_Write.T14 : Bool × List (List Nat × List Nat) := (true, [([], []), ([], []), ([1], [1]), ([2], [2]), ([3], [3]), ([], []), ([5], [5]), ([6], [6]), ([7], [7]), ([8, 4], [8]), ([4, 9], [4, 9]), ([], []), ([11], [11]), ([12], [12]), ([13, 9], [13]), ([10, 14], [10, 14]), ([], []), ([16], [16]), ([17, 14], [17]), ([15, 18], [15, 18]), ([], []), ([20], [20]), ([19, 21], [19, 21]), ([0, 22], [0, 22]), ([23, 18, 0, 1, 2, 3, 4, 5, 6, 7, 8, 9, 10, 11, 12, 13, 14, 15, 16, 17, 18, 19, 20, 21, 22, 23], [0, 23])])
def intrusionref09_Write.B14 : List Nat := [0, 0, 2, 6, 14, 0, 32, 96, 224, 510, 1022, 0, 2048, 6144, 15358, 32766, 0, 65536, 228350, 524286, 0, 1048576, 4194302, 8388607, 16777215]
theorem intrusionref09_Write.tab14 : rtab .any (opsOf Try.f17 14) = intrusionref09_Write.T14 := by kernel_rfl
theorem intrusionref09_Write.bits14 : waitsOk intrusionref09_Write.T14.2 intrusionref09_Write.B14 = true := by kernel_rfl
set_option maxHeartbeats 8000000 in
set_option maxRecDepth 100000 in
theorem intrusionref09_Write.calls (k : Nat) (A0 : Option Addr) (c0 : Nat) (l0 : List (S33)) (r1 : ByteArray) (r2 : Int) (w : World) (hr0 : Kd.C k33 w A0 l0.length l0) (hc0 : l0.length ≤ c0) (h : intrusionref09_Write.f k l0 = some (r1, r2)) :
  Calls Try.prog 17 #[.slice A0 l0.length c0] w fun e w' => e = .returned (.tuple #[.string r1, .int .i64 r2]) ∧ Below w.heap.size w w' := by
 have hu33 := Try.underlying33
 have HR0 := As hr0
 have HC0 := As hc0
 clear hr0 hc0
 have HB := As (Below.refl w.heap.size w)
 have H : (if (l0.length : Int) > 2000 then (some ((⟨#[]⟩ : ByteArray), 3)) else ((intrusionref09_put.f k 2712847316 4).bind fun t379 => ((intrusionref09_put.f k 2 2).bind fun t380 => (if t379.size + t380.size ≤ 9223372036854775807 then ((intrusionref09_put.f k 4 2).bind fun t381 => (if (t379 ++ t380).size + t381.size ≤ 9223372036854775807 then ((intrusionref09_put.f k 0 4).bind fun t382 => (if ((t379 ++ t380) ++ t381).size + t382.size ≤ 9223372036854775807 then ((intrusionref09_put.f k 0 4).bind fun t383 => (if (((t379 ++ t380) ++ t381) ++ t382).size + t383.size ≤ 9223372036854775807 then ((intrusionref09_put.f k 4096 4).bind fun t384 => (if ((((t379 ++ t380) ++ t381) ++ t382) ++ t383).size + t384.size ≤ 9223372036854775807 then ((intrusionref09_put.f k 1 4).bind fun t385 => (if (((((t379 ++ t380) ++ t381) ++ t382) ++ t383) ++ t384).size + t385.size ≤ 9223372036854775807 then (intrusionref09_Write.l0 k l0 ((((((t379 ++ t380) ++ t381) ++ t382) ++ t383) ++ t384) ++ t385) 0) else (none))) else (none))) else (none))) else (none))) else (none))) else (none))))) = some (r1, r2) := h
 clear h
 by_cases c2 : (l0.length : Int) > 2000
 ·rw [if_pos c2] at H
  have c2b0 : decide (2000 < (l0.length : Int)) = true := decide_eq_true c2
  have c2b1 : decide (2000 < l0.length) = true := decide_eq_true (by omega)
  clear c2
  simp only [Option.some.injEq, Prod.mk.injEq] at H
  obtain ⟨rfl, rfl⟩ := H
  go_enter Try.func17, Try.ntmps17
  go_wp2
  go_ret2
  exact ⟨kE, by exact kB HB.out⟩
 rw [if_neg c2] at H
 have c2b0 : decide (2000 < (l0.length : Int)) = false := decide_eq_false c2
 have c2b1 : decide (2000 < l0.length) = false := decide_eq_false (by omega)
 clear c2
 replace H := Option.bind_eq_some_iff.mp H
 obtain ⟨t379, A30, H⟩ := H
 replace H : ((intrusionref09_put.f k 2 2).bind fun t380 => (if t379.size + t380.size ≤ 9223372036854775807 then ((intrusionref09_put.f k 4 2).bind fun t381 => (if (t379 ++ t380).size + t381.size ≤ 9223372036854775807 then ((intrusionref09_put.f k 0 4).bind fun t382 => (if ((t379 ++ t380) ++ t381).size + t382.size ≤ 9223372036854775807 then ((intrusionref09_put.f k 0 4).bind fun t383 => (if (((t379 ++ t380) ++ t381) ++ t382).size + t383.size ≤ 9223372036854775807 then ((intrusionref09_put.f k 4096 4).bind fun t384 => (if ((((t379 ++ t380) ++ t381) ++ t382) ++ t383).size + t384.size ≤ 9223372036854775807 then ((intrusionref09_put.f k 1 4).bind fun t385 => (if (((((t379 ++ t380) ++ t381) ++ t382) ++ t383) ++ t384).size + t385.size ≤ 9223372036854775807 then (intrusionref09_Write.l0 k l0 ((((((t379 ++ t380) ++ t381) ++ t382) ++ t383) ++ t384) ++ t385) 0) else (none))) else (none))) else (none))) else (none))) else (none))) else (none))) = some (r1, r2) := H
 have A3 := As A30
 clear A30
 replace H := Option.bind_eq_some_iff.mp H
 obtain ⟨t380, A40, H⟩ := H
 replace H : (if t379.size + t380.size ≤ 9223372036854775807 then ((intrusionref09_put.f k 4 2).bind fun t381 => (if (t379 ++ t380).size + t381.size ≤ 9223372036854775807 then ((intrusionref09_put.f k 0 4).bind fun t382 => (if ((t379 ++ t380) ++ t381).size + t382.size ≤ 9223372036854775807 then ((intrusionref09_put.f k 0 4).bind fun t383 => (if (((t379 ++ t380) ++ t381) ++ t382).size + t383.size ≤ 9223372036854775807 then ((intrusionref09_put.f k 4096 4).bind fun t384 => (if ((((t379 ++ t380) ++ t381) ++ t382) ++ t383).size + t384.size ≤ 9223372036854775807 then ((intrusionref09_put.f k 1 4).bind fun t385 => (if (((((t379 ++ t380) ++ t381) ++ t382) ++ t383) ++ t384).size + t385.size ≤ 9223372036854775807 then (intrusionref09_Write.l0 k l0 ((((((t379 ++ t380) ++ t381) ++ t382) ++ t383) ++ t384) ++ t385) 0) else (none))) else (none))) else (none))) else (none))) else (none))) else (none)) = some (r1, r2) := H
 have A4 := As A40
 clear A40
 by_cases c5 : t379.size + t380.size ≤ 9223372036854775807
 ·rw [if_pos c5] at H
  have c5b0 := eq_true c5
  have c5b1 : decide (t379.size + t380.size ≤ 9223372036854775807) = true := decide_eq_true c5
  try have c5b2 : (9223372036854775807 < t379.size + t380.size) = False := eq_false (Nat.not_lt.2 c5)
  replace H := Option.bind_eq_some_iff.mp H
  obtain ⟨t381, A60, H⟩ := H
  replace H : (if (t379 ++ t380).size + t381.size ≤ 9223372036854775807 then ((intrusionref09_put.f k 0 4).bind fun t382 => (if ((t379 ++ t380) ++ t381).size + t382.size ≤ 9223372036854775807 then ((intrusionref09_put.f k 0 4).bind fun t383 => (if (((t379 ++ t380) ++ t381) ++ t382).size + t383.size ≤ 9223372036854775807 then ((intrusionref09_put.f k 4096 4).bind fun t384 => (if ((((t379 ++ t380) ++ t381) ++ t382) ++ t383).size + t384.size ≤ 9223372036854775807 then ((intrusionref09_put.f k 1 4).bind fun t385 => (if (((((t379 ++ t380) ++ t381) ++ t382) ++ t383) ++ t384).size + t385.size ≤ 9223372036854775807 then (intrusionref09_Write.l0 k l0 ((((((t379 ++ t380) ++ t381) ++ t382) ++ t383) ++ t384) ++ t385) 0) else (none))) else (none))) else (none))) else (none))) else (none)) = some (r1, r2) := H
  have A6 := As A60
  clear A60
  by_cases c7 : (t379 ++ t380).size + t381.size ≤ 9223372036854775807
  ·rw [if_pos c7] at H
   have c7b0 := eq_true c7
   have c7b1 : decide ((t379 ++ t380).size + t381.size ≤ 9223372036854775807) = true := decide_eq_true c7
   (try (have c7s0 : (9223372036854775807 < (t379.size + t380.size) + t381.size) = False := by have h_ := c7; simp only [ByteArray.size_append, ByteArray.size_extract] at h_; exact eq_false (by first | omega | (omega))))
   (try (have c7s1 : (9223372036854775807 < t379.size + t380.size + t381.size) = False := by have h_ := c7; simp only [ByteArray.size_append, ByteArray.size_extract] at h_; exact eq_false (by first | omega | (omega))))
   (try (have c7s2 : ((t379.size + t380.size) + t381.size ≤ 9223372036854775807) = True := by have h_ := c7; simp only [ByteArray.size_append, Int.natCast_add, Int.toNat_natCast] at h_; first | exact eq_true h_ | exact eq_true (by omega)))
   (try (have c7s3 : decide ((t379.size + t380.size) + t381.size ≤ 9223372036854775807) = true := by have h_ := c7; first | (simp only [ByteArray.size_append, Int.toNat_natCast] at h_; first | exact beq_iff_eq.mpr h_ | exact beq_eq_false_iff_ne.mpr h_ | exact bne_iff_ne.mpr h_ | exact bne_eq_false_iff_eq.mpr h_ | (rw [beq_iff_eq.mpr h_]; rfl) | (rw [beq_eq_false_iff_ne.mpr h_]; rfl)) | (simp only [ByteArray.size_append, Int.natCast_add, Int.toNat_natCast] at h_ ⊢; first | exact h_ | simpa using h_ | simp [h_] | omega) | (simp only [ByteArray.size_append] at h_; simp at h_ ⊢; omega) | (simp only [ByteArray.size_append, Int.natCast_add, Int.toNat_natCast] at h_; simpa using h_)))
   try have c7b2 : (9223372036854775807 < (t379 ++ t380).size + t381.size) = False := eq_false (Nat.not_lt.2 c7)
   replace H := Option.bind_eq_some_iff.mp H
   obtain ⟨t382, A80, H⟩ := H
   replace H : (if ((t379 ++ t380) ++ t381).size + t382.size ≤ 9223372036854775807 then ((intrusionref09_put.f k 0 4).bind fun t383 => (if (((t379 ++ t380) ++ t381) ++ t382).size + t383.size ≤ 9223372036854775807 then ((intrusionref09_put.f k 4096 4).bind fun t384 => (if ((((t379 ++ t380) ++ t381) ++ t382) ++ t383).size + t384.size ≤ 9223372036854775807 then ((intrusionref09_put.f k 1 4).bind fun t385 => (if (((((t379 ++ t380) ++ t381) ++ t382) ++ t383) ++ t384).size + t385.size ≤ 9223372036854775807 then (intrusionref09_Write.l0 k l0 ((((((t379 ++ t380) ++ t381) ++ t382) ++ t383) ++ t384) ++ t385) 0) else (none))) else (none))) else (none))) else (none)) = some (r1, r2) := H
   have A8 := As A80
   clear A80
   by_cases c9 : ((t379 ++ t380) ++ t381).size + t382.size ≤ 9223372036854775807
   ·rw [if_pos c9] at H
    have c9b0 := eq_true c9
    have c9b1 : decide (((t379 ++ t380) ++ t381).size + t382.size ≤ 9223372036854775807) = true := decide_eq_true c9
    (try (have c9s0 : (9223372036854775807 < (t379.size + t380.size + t381.size) + t382.size) = False := by have h_ := c9; simp only [ByteArray.size_append, ByteArray.size_extract] at h_; exact eq_false (by first | omega | (omega))))
    (try (have c9s1 : (9223372036854775807 < t379.size + t380.size + t381.size + t382.size) = False := by have h_ := c9; simp only [ByteArray.size_append, ByteArray.size_extract] at h_; exact eq_false (by first | omega | (omega))))
    (try (have c9s2 : ((t379.size + t380.size + t381.size) + t382.size ≤ 9223372036854775807) = True := by have h_ := c9; simp only [ByteArray.size_append, Int.natCast_add, Int.toNat_natCast] at h_; first | exact eq_true h_ | exact eq_true (by omega)))
    (try (have c9s3 : decide ((t379.size + t380.size + t381.size) + t382.size ≤ 9223372036854775807) = true := by have h_ := c9; first | (simp only [ByteArray.size_append, Int.toNat_natCast] at h_; first | exact beq_iff_eq.mpr h_ | exact beq_eq_false_iff_ne.mpr h_ | exact bne_iff_ne.mpr h_ | exact bne_eq_false_iff_eq.mpr h_ | (rw [beq_iff_eq.mpr h_]; rfl) | (rw [beq_eq_false_iff_ne.mpr h_]; rfl)) | (simp only [ByteArray.size_append, Int.natCast_add, Int.toNat_natCast] at h_ ⊢; first | exact h_ | simpa using h_ | simp [h_] | omega) | (simp only [ByteArray.size_append] at h_; simp at h_ ⊢; omega) | (simp only [ByteArray.size_append, Int.natCast_add, Int.toNat_natCast] at h_; simpa using h_)))
    try have c9b2 : (9223372036854775807 < ((t379 ++ t380) ++ t381).size + t382.size) = False := eq_false (Nat.not_lt.2 c9)
    replace H := Option.bind_eq_some_iff.mp H
    obtain ⟨t383, A100, H⟩ := H
    have e_ := Option.some.inj (A8.out.symm.trans A100)
    obtain rfl := e_
    replace H : (if (((t379 ++ t380) ++ t381) ++ t382).size + t382.size ≤ 9223372036854775807 then ((intrusionref09_put.f k 4096 4).bind fun t384 => (if ((((t379 ++ t380) ++ t381) ++ t382) ++ t382).size + t384.size ≤ 9223372036854775807 then ((intrusionref09_put.f k 1 4).bind fun t385 => (if (((((t379 ++ t380) ++ t381) ++ t382) ++ t382) ++ t384).size + t385.size ≤ 9223372036854775807 then (intrusionref09_Write.l0 k l0 ((((((t379 ++ t380) ++ t381) ++ t382) ++ t382) ++ t384) ++ t385) 0) else (none))) else (none))) else (none)) = some (r1, r2) := H
    have A10 := As A100
    clear A100
    by_cases c11 : (((t379 ++ t380) ++ t381) ++ t382).size + t382.size ≤ 9223372036854775807
    ·rw [if_pos c11] at H
     have c11b0 := eq_true c11
     have c11b1 : decide ((((t379 ++ t380) ++ t381) ++ t382).size + t382.size ≤ 9223372036854775807) = true := decide_eq_true c11
     (try (have c11s0 : (9223372036854775807 < (t379.size + t380.size + t381.size + t382.size) + t382.size) = False := by have h_ := c11; simp only [ByteArray.size_append, ByteArray.size_extract] at h_; exact eq_false (by first | omega | (omega))))
     (try (have c11s1 : (9223372036854775807 < t379.size + t380.size + t381.size + t382.size + t382.size) = False := by have h_ := c11; simp only [ByteArray.size_append, ByteArray.size_extract] at h_; exact eq_false (by first | omega | (omega))))
     (try (have c11s2 : ((t379.size + t380.size + t381.size + t382.size) + t382.size ≤ 9223372036854775807) = True := by have h_ := c11; simp only [ByteArray.size_append, Int.natCast_add, Int.toNat_natCast] at h_; first | exact eq_true h_ | exact eq_true (by omega)))
     (try (have c11s3 : decide ((t379.size + t380.size + t381.size + t382.size) + t382.size ≤ 9223372036854775807) = true := by have h_ := c11; first | (simp only [ByteArray.size_append, Int.toNat_natCast] at h_; first | exact beq_iff_eq.mpr h_ | exact beq_eq_false_iff_ne.mpr h_ | exact bne_iff_ne.mpr h_ | exact bne_eq_false_iff_eq.mpr h_ | (rw [beq_iff_eq.mpr h_]; rfl) | (rw [beq_eq_false_iff_ne.mpr h_]; rfl)) | (simp only [ByteArray.size_append, Int.natCast_add, Int.toNat_natCast] at h_ ⊢; first | exact h_ | simpa using h_ | simp [h_] | omega) | (simp only [ByteArray.size_append] at h_; simp at h_ ⊢; omega) | (simp only [ByteArray.size_append, Int.natCast_add, Int.toNat_natCast] at h_; simpa using h_)))
     try have c11b2 : (9223372036854775807 < (((t379 ++ t380) ++ t381) ++ t382).size + t382.size) = False := eq_false (Nat.not_lt.2 c11)
     replace H := Option.bind_eq_some_iff.mp H
     obtain ⟨t384, A120, H⟩ := H
     replace H : (if ((((t379 ++ t380) ++ t381) ++ t382) ++ t382).size + t384.size ≤ 9223372036854775807 then ((intrusionref09_put.f k 1 4).bind fun t385 => (if (((((t379 ++ t380) ++ t381) ++ t382) ++ t382) ++ t384).size + t385.size ≤ 9223372036854775807 then (intrusionref09_Write.l0 k l0 ((((((t379 ++ t380) ++ t381) ++ t382) ++ t382) ++ t384) ++ t385) 0) else (none))) else (none)) = some (r1, r2) := H
     have A12 := As A120
     clear A120
     by_cases c13 : ((((t379 ++ t380) ++ t381) ++ t382) ++ t382).size + t384.size ≤ 9223372036854775807
     ·rw [if_pos c13] at H
      have c13b0 := eq_true c13
      have c13b1 : decide (((((t379 ++ t380) ++ t381) ++ t382) ++ t382).size + t384.size ≤ 9223372036854775807) = true := decide_eq_true c13
      (try (have c13s0 : (9223372036854775807 < (t379.size + t380.size + t381.size + t382.size + t382.size) + t384.size) = False := by have h_ := c13; simp only [ByteArray.size_append, ByteArray.size_extract] at h_; exact eq_false (by first | omega | (omega))))
      (try (have c13s1 : (9223372036854775807 < t379.size + t380.size + t381.size + t382.size + t382.size + t384.size) = False := by have h_ := c13; simp only [ByteArray.size_append, ByteArray.size_extract] at h_; exact eq_false (by first | omega | (omega))))
      (try (have c13s2 : ((t379.size + t380.size + t381.size + t382.size + t382.size) + t384.size ≤ 9223372036854775807) = True := by have h_ := c13; simp only [ByteArray.size_append, Int.natCast_add, Int.toNat_natCast] at h_; first | exact eq_true h_ | exact eq_true (by omega)))
      (try (have c13s3 : decide ((t379.size + t380.size + t381.size + t382.size + t382.size) + t384.size ≤ 9223372036854775807) = true := by have h_ := c13; first | (simp only [ByteArray.size_append, Int.toNat_natCast] at h_; first | exact beq_iff_eq.mpr h_ | exact beq_eq_false_iff_ne.mpr h_ | exact bne_iff_ne.mpr h_ | exact bne_eq_false_iff_eq.mpr h_ | (rw [beq_iff_eq.mpr h_]; rfl) | (rw [beq_eq_false_iff_ne.mpr h_]; rfl)) | (simp only [ByteArray.size_append, Int.natCast_add, Int.toNat_natCast] at h_ ⊢; first | exact h_ | simpa using h_ | simp [h_] | omega) | (simp only [ByteArray.size_append] at h_; simp at h_ ⊢; omega) | (simp only [ByteArray.size_append, Int.natCast_add, Int.toNat_natCast] at h_; simpa using h_)))
      try have c13b2 : (9223372036854775807 < ((((t379 ++ t380) ++ t381) ++ t382) ++ t382).size + t384.size) = False := eq_false (Nat.not_lt.2 c13)
      replace H := Option.bind_eq_some_iff.mp H
      obtain ⟨t385, A140, H⟩ := H
      replace H : (if (((((t379 ++ t380) ++ t381) ++ t382) ++ t382) ++ t384).size + t385.size ≤ 9223372036854775807 then (intrusionref09_Write.l0 k l0 ((((((t379 ++ t380) ++ t381) ++ t382) ++ t382) ++ t384) ++ t385) 0) else (none)) = some (r1, r2) := H
      have A14 := As A140
      clear A140
      by_cases c15 : (((((t379 ++ t380) ++ t381) ++ t382) ++ t382) ++ t384).size + t385.size ≤ 9223372036854775807
      ·rw [if_pos c15] at H
       have c15b0 := eq_true c15
       have c15b1 : decide ((((((t379 ++ t380) ++ t381) ++ t382) ++ t382) ++ t384).size + t385.size ≤ 9223372036854775807) = true := decide_eq_true c15
       (try (have c15s0 : (9223372036854775807 < (t379.size + t380.size + t381.size + t382.size + t382.size + t384.size) + t385.size) = False := by have h_ := c15; simp only [ByteArray.size_append, ByteArray.size_extract] at h_; exact eq_false (by first | omega | (omega))))
       (try (have c15s1 : (9223372036854775807 < t379.size + t380.size + t381.size + t382.size + t382.size + t384.size + t385.size) = False := by have h_ := c15; simp only [ByteArray.size_append, ByteArray.size_extract] at h_; exact eq_false (by first | omega | (omega))))
       (try (have c15s2 : ((t379.size + t380.size + t381.size + t382.size + t382.size + t384.size) + t385.size ≤ 9223372036854775807) = True := by have h_ := c15; simp only [ByteArray.size_append, Int.natCast_add, Int.toNat_natCast] at h_; first | exact eq_true h_ | exact eq_true (by omega)))
       (try (have c15s3 : decide ((t379.size + t380.size + t381.size + t382.size + t382.size + t384.size) + t385.size ≤ 9223372036854775807) = true := by have h_ := c15; first | (simp only [ByteArray.size_append, Int.toNat_natCast] at h_; first | exact beq_iff_eq.mpr h_ | exact beq_eq_false_iff_ne.mpr h_ | exact bne_iff_ne.mpr h_ | exact bne_eq_false_iff_eq.mpr h_ | (rw [beq_iff_eq.mpr h_]; rfl) | (rw [beq_eq_false_iff_ne.mpr h_]; rfl)) | (simp only [ByteArray.size_append, Int.natCast_add, Int.toNat_natCast] at h_ ⊢; first | exact h_ | simpa using h_ | simp [h_] | omega) | (simp only [ByteArray.size_append] at h_; simp at h_ ⊢; omega) | (simp only [ByteArray.size_append, Int.natCast_add, Int.toNat_natCast] at h_; simpa using h_)))
       try have c15b2 : (9223372036854775807 < (((((t379 ++ t380) ++ t381) ++ t382) ++ t382) ++ t384).size + t385.size) = False := eq_false (Nat.not_lt.2 c15)
       have H' := As H
       clear H
       go_enter Try.func17, Try.ntmps17
       go_wp2_with (first | ((with_reducible refine gate_callee (f := 27) rfl ?_); refine goesL_ (some 10) rfl rfl Try.func27 (by kernel_rfl) rfl #[.int .i64 2712847316, .int .i64 4] rfl kA ?_; (with_reducible refine (intrusionref09_put.calls k 2712847316 4 t379 _ A3.out).mono ?_); rintro e w16 ⟨rfl, hb⟩; refine ⟨_, rfl, ?_⟩; replace HB := As (below_step (kB HB.out) hb); (try clear hb)) | ((with_reducible refine gate_callee (f := 27) rfl ?_); refine goesL_ (some 11) rfl rfl Try.func27 (by kernel_rfl) rfl #[.int .i64 2, .int .i64 2] rfl kA ?_; (with_reducible refine (intrusionref09_put.calls k 2 2 t380 _ A4.out).mono ?_); rintro e w17 ⟨rfl, hb⟩; refine ⟨_, rfl, ?_⟩; replace HB := As (below_step (kB HB.out) hb); (try clear hb)) | ((with_reducible refine gate_callee (f := 27) rfl ?_); refine goesL_ (some 13) rfl rfl Try.func27 (by kernel_rfl) rfl #[.int .i64 4, .int .i64 2] rfl kA ?_; (with_reducible refine (intrusionref09_put.calls k 4 2 t381 _ A6.out).mono ?_); rintro e w18 ⟨rfl, hb⟩; refine ⟨_, rfl, ?_⟩; replace HB := As (below_step (kB HB.out) hb); (try clear hb)) | ((with_reducible refine gate_callee (f := 27) rfl ?_); refine goesL_ (some 15) rfl rfl Try.func27 (by kernel_rfl) rfl #[.int .i64 0, .int .i64 4] rfl kA ?_; (with_reducible refine (intrusionref09_put.calls k 0 4 t382 _ A8.out).mono ?_); rintro e w19 ⟨rfl, hb⟩; refine ⟨_, rfl, ?_⟩; replace HB := As (below_step (kB HB.out) hb); (try clear hb)) | ((with_reducible refine gate_callee (f := 27) rfl ?_); refine goesL_ (some 17) rfl rfl Try.func27 (by kernel_rfl) rfl #[.int .i64 0, .int .i64 4] rfl kA ?_; (with_reducible refine (intrusionref09_put.calls k 0 4 t382 _ A10.out).mono ?_); rintro e w20 ⟨rfl, hb⟩; refine ⟨_, rfl, ?_⟩; replace HB := As (below_step (kB HB.out) hb); (try clear hb)) | ((with_reducible refine gate_callee (f := 27) rfl ?_); refine goesL_ (some 19) rfl rfl Try.func27 (by kernel_rfl) rfl #[.int .i64 4096, .int .i64 4] rfl kA ?_; (with_reducible refine (intrusionref09_put.calls k 4096 4 t384 _ A12.out).mono ?_); rintro e w21 ⟨rfl, hb⟩; refine ⟨_, rfl, ?_⟩; replace HB := As (below_step (kB HB.out) hb); (try clear hb)) | ((with_reducible refine gate_callee (f := 27) rfl ?_); refine goesL_ (some 21) rfl rfl Try.func27 (by kernel_rfl) rfl #[.int .i64 1, .int .i64 4] rfl kA ?_; (with_reducible refine (intrusionref09_put.calls k 1 4 t385 _ A14.out).mono ?_); rintro e w22 ⟨rfl, hb⟩; refine ⟨_, rfl, ?_⟩; replace HB := As (below_step (kB HB.out) hb); (try clear hb)))
       go_loopg [4, 5] k (fun kq v4 v5 w' => ∃ (x4_1 : ByteArray) (x5_1 : Int), v4 = .string x4_1 ∧ v5 = .int .i64 x5_1 ∧ Aside0 (intrusionref09_Write.l0 kq l0 x4_1 x5_1 = some (r1, r2)) ∧ Aside0 (kq ≤ k) ∧ Aside0 (Below w.heap.size w w'))
       case atStart => exact ⟨((((((t379 ++ t380) ++ t381) ++ t382) ++ t382) ++ t384) ++ t385), (0), kS, kS, H', ⟨Nat.le_refl _⟩, ⟨kB HB.out⟩⟩
       clear H'
       try clear c2
       try clear c2b0
       try clear c2b1
       try clear c5
       try clear c5b0
       try clear c5b1
       try clear c5b2
       try clear c7
       try clear c7b0
       try clear c7b1
       try clear c7b2
       try clear c9
       try clear c9b0
       try clear c9b1
       try clear c9b2
       try clear c11
       try clear c11b0
       try clear c11b1
       try clear c11b2
       try clear c13
       try clear c13b0
       try clear c13b1
       try clear c13b2
       try clear c15
       try clear c15b0
       try clear c15b1
       try clear c15b2
       obtain ⟨x4_1, x5_1, rfl, rfl, HA, HK1, HB⟩ := hrel
       cases gk with
       | zero => exact absurd HA.out (by simp [intrusionref09_Write.l0])
       | succ k1 =>
        have H := HA.out
        clear HA
        simp only [intrusionref09_Write.l0] at H
        by_cases c23 : x5_1 < (l0.length : Int)
        ·rw [if_pos c23] at H
         have c23b0 : decide (x5_1 < (l0.length : Int)) = true := decide_eq_true c23
         clear c23
         by_cases c24 : 0 ≤ x5_1
         ·rw [if_pos c24] at H
          have c24b0 : decide (0 ≤ x5_1) = true := decide_eq_true c24
          clear c24
          have HC25 := As H
          clear H
          have p386 : 0 ≤ (x5_1 : Int) := of_decide_eq_true (by first | (with_reducible assumption) | assumption)
          have q386 : x5_1 < (l0.length : Int) := of_decide_eq_true (by first | (with_reducible assumption) | assumption)
          obtain ⟨ad386, e386, hx386_0, hx386_1, hx386_2⟩ := at_T33 HR0.out x5_1 p386 q386
          cases e386
          replace hx386_0 := hcell HB.out hx386_0
          replace hx386_1 := hcell HB.out hx386_1
          replace hx386_2 := hcell HB.out hx386_2
          replace p386 := eq_true p386
          replace q386 := eq_true q386
          go_upto_block 2 with (first | ((with_reducible refine gate_dst (N := 6) rfl ?_); (try (refine gate_guard (by rfl) ?_; dsimp only)); refine box_event rfl (N := 6) rfl (cs := #[.int .i64 0, .int .i64 0, .string (⟨#[]⟩ : ByteArray)]) (t := 33) kG ?_; intro gb387 hg w26 hbox hb; have BK387 := As (hbox); have GW387 := As ((by rw [hg]; exact (below_size (kB HB.out)) : w.heap.size ≤ gb387)); have GE387 := As ((by rw [hg]; exact (below_size (kB HB.out)) : w.heap.size ≤ gb387)); replace HB := As (below_step (kB HB.out) hb); clear hb hbox hg; have hcz27_0 := cells_3 BK387.out; have hfz27_0 := fun j_ => blk_frozen BK387.out j_))
          (try simp only [Act.put, sA, sZ, sS])
          go_cut [] (fun wc => ∃ (kq : Nat), Aside0 (intrusionref09_Write.j2 kq l0 x4_1 x5_1 ((rd_T33 l0 x5_1).f0) ((rd_T33 l0 x5_1).f1) ((rd_T33 l0 x5_1).f2) = some (r1, r2)) ∧ Aside0 (kq ≤ k1) ∧ Aside0 (wc.heap[gb387]? = some (.cells #[.int .i64 ((rd_T33 l0 x5_1).f0), .int .i64 ((rd_T33 l0 x5_1).f1), .string ((rd_T33 l0 x5_1).f2)] 33 (0, 0))) ∧ Aside0 (Below w.heap.size w wc))
          case first =>
           have H := HC25.out
           clear HC25
           by_cases c28 : (((rd_T33 l0 x5_1).f2).size : Int) > 4096
           ·rw [if_pos c28] at H
            have c28b0 : decide (4096 < (((rd_T33 l0 x5_1).f2).size : Int)) = true := decide_eq_true c28
            have c28b1 : decide (4096 < ((rd_T33 l0 x5_1).f2).size) = true := decide_eq_true (by omega)
            clear c28
            (first | rw [c28b0] | (simp only [i64_w, i32_w]; rw [c28b0]) | skip)
            simp only [Option.some.injEq, Prod.mk.injEq] at H
            obtain ⟨rfl, rfl⟩ := H
            have hcz29_0 := cells_3 BK387.out
            have hfz29_0 := fun j_ => blk_frozen BK387.out j_
            go_wp2
            go_ret2
            exact ⟨kE, by exact kB1 HB.out GE387.out⟩
           rw [if_neg c28] at H
           have c28b0 : decide (4096 < (((rd_T33 l0 x5_1).f2).size : Int)) = false := decide_eq_false c28
           have c28b1 : decide (4096 < ((rd_T33 l0 x5_1).f2).size) = false := decide_eq_false (by omega)
           clear c28
           (first | rw [c28b0] | (simp only [i64_w, i32_w]; rw [c28b0]) | skip)
           have HC30 := As H
           clear H
           have hcz31_0 := cells_3 BK387.out
           have hfz31_0 := fun j_ => blk_frozen BK387.out j_
           go_upto_region 10 with (fail)
           go_cut [38] (fun v38 wc => ∃ (kq : Nat) (x38_29 : Bool), v38 = .bool x38_29 ∧ Aside0 (intrusionref09_Write.j1 kq l0 x4_1 x5_1 x38_29 ((rd_T33 l0 x5_1).f0) ((rd_T33 l0 x5_1).f1) ((rd_T33 l0 x5_1).f2) = some (r1, r2)) ∧ Aside0 (kq ≤ k1) ∧ Aside0 (wc.heap[gb387]? = some (.cells #[.int .i64 ((rd_T33 l0 x5_1).f0), .int .i64 ((rd_T33 l0 x5_1).f1), .string ((rd_T33 l0 x5_1).f2)] 33 (0, 0))) ∧ Aside0 (Below w.heap.size w wc))
           case first =>
            have H := HC30.out
            clear HC30
            by_cases c32 : ((rd_T33 l0 x5_1).f0) < 0
            ·rw [if_pos c32] at H
             have c32b0 : decide (((rd_T33 l0 x5_1).f0) < 0) = true := decide_eq_true c32
             clear c32
             (first | rw [c32b0] | (simp only [i64_w, i32_w]; rw [c32b0]) | skip)
             have H' := As H
             clear H
             have hcz33_0 := cells_3 BK387.out
             have hfz33_0 := fun j_ => blk_frozen BK387.out j_
             go_wp2
             go_meet
             case rel => exact ⟨_, (true), kS, H', ⟨by have := HK1.out; first | omega | exact Nat.le_refl _⟩, ⟨by refine kb ?_; exact blk_all_3 (kb BK387.out) (by rfl)⟩, ⟨kB1 HB.out GE387.out⟩⟩
            rw [if_neg c32] at H
            have c32b0 : decide (((rd_T33 l0 x5_1).f0) < 0) = false := decide_eq_false c32
            clear c32
            (first | rw [c32b0] | (simp only [i64_w, i32_w]; rw [c32b0]) | skip)
            by_cases c34 : ((rd_T33 l0 x5_1).f0) > 1099511627776
            ·rw [if_pos c34] at H
             have c34b0 : decide (1099511627776 < ((rd_T33 l0 x5_1).f0)) = true := decide_eq_true c34
             clear c34
             have H' := As H
             clear H
             have hcz35_0 := cells_3 BK387.out
             have hfz35_0 := fun j_ => blk_frozen BK387.out j_
             go_wp2
             go_meet
             case rel => exact ⟨_, (true), kS, H', ⟨by have := HK1.out; first | omega | exact Nat.le_refl _⟩, ⟨by refine kb ?_; exact blk_all_3 (kb BK387.out) (by rfl)⟩, ⟨kB1 HB.out GE387.out⟩⟩
            rw [if_neg c34] at H
            have c34b0 : decide (1099511627776 < ((rd_T33 l0 x5_1).f0)) = false := decide_eq_false c34
            clear c34
            by_cases c36 : ((rd_T33 l0 x5_1).f1) < (((rd_T33 l0 x5_1).f2).size : Int)
            ·rw [if_pos c36] at H
             have c36b0 : decide (((rd_T33 l0 x5_1).f1) < (((rd_T33 l0 x5_1).f2).size : Int)) = true := decide_eq_true c36
             clear c36
             have H' := As H
             clear H
             have hcz37_0 := cells_3 BK387.out
             have hfz37_0 := fun j_ => blk_frozen BK387.out j_
             go_wp2
             go_meet
             case rel => exact ⟨_, (true), kS, H', ⟨by have := HK1.out; first | omega | exact Nat.le_refl _⟩, ⟨by refine kb ?_; exact blk_all_3 (kb BK387.out) (by rfl)⟩, ⟨kB1 HB.out GE387.out⟩⟩
            rw [if_neg c36] at H
            have c36b0 : decide (((rd_T33 l0 x5_1).f1) < (((rd_T33 l0 x5_1).f2).size : Int)) = false := decide_eq_false c36
            clear c36
            have H' := As H
            clear H
            have hcz38_0 := cells_3 BK387.out
            have hfz38_0 := fun j_ => blk_frozen BK387.out j_
            go_wp2
            go_meet
            case rel => exact ⟨_, (decide (((rd_T33 l0 x5_1).f1) > 65535)), kS, H', ⟨by have := HK1.out; first | omega | exact Nat.le_refl _⟩, ⟨by refine kb ?_; exact blk_all_3 (kb BK387.out) (by rfl)⟩, ⟨kB1 HB.out GE387.out⟩⟩
           clear HC30
           try clear c23
           try clear c23b0
           try clear c24
           try clear c24b0
           try clear c28
           try clear c28b0
           try clear c28b1
           try clear hcz27_0
           try clear hcz31_0
           try clear hfz27_0
           try clear hfz31_0
           try clear hx386_0
           try clear hx386_1
           try clear hx386_2
           try clear p386
           try clear q386
           obtain ⟨kq, x38_29, rfl, HA, HJ29, BK387, HB⟩ := hcut
           cases kq with
           | zero => exact absurd HA.out (by simp [intrusionref09_Write.j1])
           | succ kj29 =>
            have H := HA.out
            clear HA
            simp only [intrusionref09_Write.j1] at H
            by_cases c39 : x38_29 = true
            ·subst c39
             have H1 : (some ((⟨#[]⟩ : ByteArray), 4)) = some (r1, r2) := by rw [if_pos rfl] at H; exact H
             clear H
             have H := H1
             clear H1
             simp only [Option.some.injEq, Prod.mk.injEq] at H
             obtain ⟨rfl, rfl⟩ := H
             go_wp2
             go_ret2
             exact ⟨kE, by exact kB1 HB.out GE387.out⟩
            replace c39 := Bool.eq_false_iff.mpr c39
            subst c39
            have H1 : (if x5_1 > 0 then (if 0 ≤ (wrap64 (x5_1 - 1)) then (if (wrap64 (x5_1 - 1)) < (l0.length : Int) then (if ((rd_T33 l0 x5_1).f0) < ((rd_T33 l0 (wrap64 (x5_1 - 1))).f0) then (some ((⟨#[]⟩ : ByteArray), 12)) else (intrusionref09_Write.j2 kj29 l0 x4_1 x5_1 ((rd_T33 l0 x5_1).f0) ((rd_T33 l0 x5_1).f1) ((rd_T33 l0 x5_1).f2))) else (none)) else (none)) else (intrusionref09_Write.j2 kj29 l0 x4_1 x5_1 ((rd_T33 l0 x5_1).f0) ((rd_T33 l0 x5_1).f1) ((rd_T33 l0 x5_1).f2))) = some (r1, r2) := by rw [if_neg (show ¬ (false = true) by decide)] at H; exact H
            clear H
            have H := H1
            clear H1
            by_cases c40 : x5_1 > 0
            ·rw [if_pos c40] at H
             have c40b0 : decide (0 < x5_1) = true := decide_eq_true c40
             clear c40
             obtain ⟨ji41, hji41⟩ : ∃ j_ : Int, (wrap64 (x5_1 - 1)) = j_ := ⟨_, rfl⟩
             replace H : (if 0 ≤ (ji41) then (if (ji41) < (l0.length : Int) then (if ((rd_T33 l0 x5_1).f0) < ((rd_T33 l0 (ji41)).f0) then (some ((⟨#[]⟩ : ByteArray), 12)) else (intrusionref09_Write.j2 kj29 l0 x4_1 x5_1 ((rd_T33 l0 x5_1).f0) ((rd_T33 l0 x5_1).f1) ((rd_T33 l0 x5_1).f2))) else (none)) else (none)) = some (r1, r2) := by first | (rw [hji41] at H; exact H) | (simp only [hji41] at H ⊢; exact H)
             have hji41w : (IntKind.i64.wrap (x5_1 - 1)) = ji41 := (i64_w _).trans hji41
             by_cases c42 : 0 ≤ (ji41)
             ·rw [if_pos c42] at H
              have c42b0 : decide (0 ≤ (ji41)) = true := decide_eq_true c42
              clear c42
              by_cases c43 : (ji41) < (l0.length : Int)
              ·rw [if_pos c43] at H
               have c43b0 : decide ((ji41) < (l0.length : Int)) = true := decide_eq_true c43
               clear c43
               by_cases c44 : ((rd_T33 l0 x5_1).f0) < ((rd_T33 l0 (ji41)).f0)
               ·rw [if_pos c44] at H
                have c44b0 : decide (((rd_T33 l0 x5_1).f0) < ((rd_T33 l0 (ji41)).f0)) = true := decide_eq_true c44
                clear c44
                simp only [Option.some.injEq, Prod.mk.injEq] at H
                obtain ⟨rfl, rfl⟩ := H
                try go_wp2
                replace BK387 := As (blk_drew BK387.out)
                replace HB := As (below_drew1 HB.out)
                have p388 : 0 ≤ ((ji41) : Int) := of_decide_eq_true (by first | (with_reducible assumption) | assumption)
                have q388 : (ji41) < (l0.length : Int) := of_decide_eq_true (by first | (with_reducible assumption) | assumption)
                obtain ⟨ad388, e388, hx388_0, hx388_1, hx388_2⟩ := at_T33 HR0.out (ji41) p388 q388
                have hw388_2 := hx388_2
                have hw388_1 := hx388_1
                have hw388_0 := hx388_0
                obtain rfl : ad386 = ad388 := (by injection e388)
                replace hx388_0 := hcell HB.out hx388_0
                replace hx388_1 := hcell HB.out hx388_1
                replace hx388_2 := hcell HB.out hx388_2
                replace p388 := eq_true p388
                replace q388 := eq_true q388
                refine start_ (n := 14) (S := fun w' => w'.cell? ⟨gb387, 0, none⟩ = some (.int .i64 ((rd_T33 l0 x5_1).f0)) ∧ w'.cell? ⟨gb387, 1, none⟩ = some (.int .i64 ((rd_T33 l0 x5_1).f1)) ∧ w'.cell? ⟨gb387, 2, none⟩ = some (.string ((rd_T33 l0 x5_1).f2)) ∧ w'.cell? (ad386.add (((ji41)).toNat * 3)) = some (.int .i64 ((rd_T33 l0 (ji41)).f0)) ∧ w'.cell? ⟨(ad386.add (((ji41)).toNat * 3)).block, (ad386.add (((ji41)).toNat * 3)).off + 1, none⟩ = some (.int .i64 ((rd_T33 l0 (ji41)).f1)) ∧ w'.cell? ⟨(ad386.add (((ji41)).toNat * 3)).block, (ad386.add (((ji41)).toNat * 3)).off + 2, none⟩ = some (.string ((rd_T33 l0 (ji41)).f2))) (ds := []) #[O, O, O, O, O, O, O, O, O, O, O, O, O, O] (by kernel_rfl) rfl rfl ⟨kC BK387.out 0, kC BK387.out 1, kC BK387.out 2, (hcell HB.out hw388_0), (hcell HB.out hw388_1), (hcell HB.out hw388_2)⟩ (fun hHeld => ?_); refine with_tabW intrusionref09_Write.tab12 intrusionref09_Write.bits12 (fun HT_ HW_ => ?_)
                generalize wc.drew = w45 at BK387 HB hx388_0 hx388_1 hx388_2 hHeld ⊢
                refine kP 0 61 #[I, O, O, O, O, O, O, O, O, O, O, O, O, O] ?_ (any_of HT_.out (by kernel_rfl))
                refine kP 1 62 #[I, I, O, O, O, O, O, O, O, O, O, O, O, O] ?_ (any_of HT_.out (by kernel_rfl))
                refine kP 2 63 #[I, I, I, O, O, O, O, O, O, O, O, O, O, O] ?_ (any_of HT_.out (by kernel_rfl))
                refine kP 3 64 #[I, I, I, I, O, O, O, O, O, O, O, O, O, O] ?_ (any_of HT_.out (by kernel_rfl))
                refine kP 5 66 #[I, I, I, I, O, I, O, O, O, O, O, O, O, O] ?_ (any_of HT_.out (by kernel_rfl))
                refine kP 6 67 #[I, I, I, I, O, I, I, O, O, O, O, O, O, O] ?_ (any_of HT_.out (by kernel_rfl))
                refine kP 7 68 #[I, I, I, I, O, I, I, I, O, O, O, O, O, O] ?_ (any_of HT_.out (by kernel_rfl))
                refine kP 8 69 #[I, I, I, I, O, I, I, I, I, O, O, O, O, O] ?_ (any_of HT_.out (by kernel_rfl))
                refine kP 9 70 #[I, I, I, I, O, I, I, I, I, I, O, O, O, O] ?_ (any_of HT_.out (by kernel_rfl))
                refine take_ (i := 4) (N := some 65) (v := ?_) (a' := ?_) #[I, I, I, I, I, I, I, I, I, I, O, O, O, O] rfl rfl (take_ofW HT_.out HW_.out (by kernel_rfl)) (fun _ _ _ h => h) (Or.inl ⟨by rfl, ?_⟩) hHeld ?_ ?_
                rotate_left
                ·rintro w' ⟨s0, s1, s2, s3, s4, s5⟩
                 go_simp
                 with_reducible rfl
                rotate_left
                ·simp only [Act.put, sA, sZ, sS, i64_w, i32_w]
                 rfl
                refine take_ (i := 10) (N := some 71) (v := ?_) (a' := ?_) #[I, I, I, I, I, I, I, I, I, I, I, O, O, O] rfl rfl (take_ofW HT_.out HW_.out (by kernel_rfl)) (fun _ _ _ h => h) (Or.inl ⟨by rfl, ?_⟩) hHeld ?_ ?_
                rotate_left
                ·rintro w' ⟨s0, s1, s2, s3, s4, s5⟩
                 go_simp
                 with_reducible rfl
                rotate_left
                ·simp only [Act.put, sA, sZ, sS, i64_w, i32_w]
                 rfl
                refine kP 11 72 #[I, I, I, I, I, I, I, I, I, I, I, I, O, O] ?_ (any_of HT_.out (by kernel_rfl))
                refine kP 12 73 #[I, I, I, I, I, I, I, I, I, I, I, I, I, O] ?_ (any_of HT_.out (by kernel_rfl))
                refine kP 13 60 #[I, I, I, I, I, I, I, I, I, I, I, I, I, I] ?_ (any_of HT_.out (by kernel_rfl))
                refine done_ (done_of HT_.out (by kernel_rfl)) ?_
                try go_wp2
                go_ret2
                exact ⟨by first | rfl | (simp [errW_none, errW_some] <;> rfl) | (simp only [← hji41]; first | rfl | (simp [errW_none, errW_some] <;> rfl)) | (simp [*, errW_none, errW_some] <;> rfl), by exact kB1 HB.out GE387.out⟩
               rw [if_neg c44] at H
               have c44b0 : decide (((rd_T33 l0 x5_1).f0) < ((rd_T33 l0 (ji41)).f0)) = false := decide_eq_false c44
               clear c44
               have H' := As H
               clear H
               try go_wp2
               replace BK387 := As (blk_drew BK387.out)
               replace HB := As (below_drew1 HB.out)
               have p388 : 0 ≤ ((ji41) : Int) := of_decide_eq_true (by first | (with_reducible assumption) | assumption)
               have q388 : (ji41) < (l0.length : Int) := of_decide_eq_true (by first | (with_reducible assumption) | assumption)
               obtain ⟨ad388, e388, hx388_0, hx388_1, hx388_2⟩ := at_T33 HR0.out (ji41) p388 q388
               have hw388_2 := hx388_2
               have hw388_1 := hx388_1
               have hw388_0 := hx388_0
               obtain rfl : ad386 = ad388 := (by injection e388)
               replace hx388_0 := hcell HB.out hx388_0
               replace hx388_1 := hcell HB.out hx388_1
               replace hx388_2 := hcell HB.out hx388_2
               replace p388 := eq_true p388
               replace q388 := eq_true q388
               refine start_ (n := 14) (S := fun w' => w'.cell? ⟨gb387, 0, none⟩ = some (.int .i64 ((rd_T33 l0 x5_1).f0)) ∧ w'.cell? ⟨gb387, 1, none⟩ = some (.int .i64 ((rd_T33 l0 x5_1).f1)) ∧ w'.cell? ⟨gb387, 2, none⟩ = some (.string ((rd_T33 l0 x5_1).f2)) ∧ w'.cell? (ad386.add (((ji41)).toNat * 3)) = some (.int .i64 ((rd_T33 l0 (ji41)).f0)) ∧ w'.cell? ⟨(ad386.add (((ji41)).toNat * 3)).block, (ad386.add (((ji41)).toNat * 3)).off + 1, none⟩ = some (.int .i64 ((rd_T33 l0 (ji41)).f1)) ∧ w'.cell? ⟨(ad386.add (((ji41)).toNat * 3)).block, (ad386.add (((ji41)).toNat * 3)).off + 2, none⟩ = some (.string ((rd_T33 l0 (ji41)).f2))) (ds := []) #[O, O, O, O, O, O, O, O, O, O, O, O, O, O] (by kernel_rfl) rfl rfl ⟨kC BK387.out 0, kC BK387.out 1, kC BK387.out 2, (hcell HB.out hw388_0), (hcell HB.out hw388_1), (hcell HB.out hw388_2)⟩ (fun hHeld => ?_); refine with_tabW intrusionref09_Write.tab12 intrusionref09_Write.bits12 (fun HT_ HW_ => ?_)
               generalize wc.drew = w46 at BK387 HB hx388_0 hx388_1 hx388_2 hHeld ⊢
               refine kP 0 61 #[I, O, O, O, O, O, O, O, O, O, O, O, O, O] ?_ (any_of HT_.out (by kernel_rfl))
               refine kP 1 62 #[I, I, O, O, O, O, O, O, O, O, O, O, O, O] ?_ (any_of HT_.out (by kernel_rfl))
               refine kP 2 63 #[I, I, I, O, O, O, O, O, O, O, O, O, O, O] ?_ (any_of HT_.out (by kernel_rfl))
               refine kP 3 64 #[I, I, I, I, O, O, O, O, O, O, O, O, O, O] ?_ (any_of HT_.out (by kernel_rfl))
               refine kP 5 66 #[I, I, I, I, O, I, O, O, O, O, O, O, O, O] ?_ (any_of HT_.out (by kernel_rfl))
               refine kP 6 67 #[I, I, I, I, O, I, I, O, O, O, O, O, O, O] ?_ (any_of HT_.out (by kernel_rfl))
               refine kP 7 68 #[I, I, I, I, O, I, I, I, O, O, O, O, O, O] ?_ (any_of HT_.out (by kernel_rfl))
               refine kP 8 69 #[I, I, I, I, O, I, I, I, I, O, O, O, O, O] ?_ (any_of HT_.out (by kernel_rfl))
               refine kP 9 70 #[I, I, I, I, O, I, I, I, I, I, O, O, O, O] ?_ (any_of HT_.out (by kernel_rfl))
               refine take_ (i := 4) (N := some 65) (v := ?_) (a' := ?_) #[I, I, I, I, I, I, I, I, I, I, O, O, O, O] rfl rfl (take_ofW HT_.out HW_.out (by kernel_rfl)) (fun _ _ _ h => h) (Or.inl ⟨by rfl, ?_⟩) hHeld ?_ ?_
               rotate_left
               ·rintro w' ⟨s0, s1, s2, s3, s4, s5⟩
                go_simp
                with_reducible rfl
               rotate_left
               ·simp only [Act.put, sA, sZ, sS, i64_w, i32_w]
                rfl
               refine take_ (i := 10) (N := some 71) (v := ?_) (a' := ?_) #[I, I, I, I, I, I, I, I, I, I, I, O, O, O] rfl rfl (take_ofW HT_.out HW_.out (by kernel_rfl)) (fun _ _ _ h => h) (Or.inl ⟨by rfl, ?_⟩) hHeld ?_ ?_
               rotate_left
               ·rintro w' ⟨s0, s1, s2, s3, s4, s5⟩
                go_simp
                with_reducible rfl
               rotate_left
               ·simp only [Act.put, sA, sZ, sS, i64_w, i32_w]
                rfl
               refine kP 11 72 #[I, I, I, I, I, I, I, I, I, I, I, I, O, O] ?_ (any_of HT_.out (by kernel_rfl))
               refine kP 12 73 #[I, I, I, I, I, I, I, I, I, I, I, I, I, O] ?_ (any_of HT_.out (by kernel_rfl))
               refine kP 13 60 #[I, I, I, I, I, I, I, I, I, I, I, I, I, I] ?_ (any_of HT_.out (by kernel_rfl))
               refine done_ (done_of HT_.out (by kernel_rfl)) ?_
               try go_wp2
               go_meet
               case rel => exact ⟨_, H', ⟨by have := HK1.out; have := HJ29.out; first | omega | exact Nat.le_refl _⟩, ⟨kb BK387.out⟩, ⟨kB1 HB.out GE387.out⟩⟩
              rw [if_neg c43] at H
              exact absurd H (by simp)
             rw [if_neg c42] at H
             exact absurd H (by simp)
            rw [if_neg c40] at H
            have c40b0 : decide (0 < x5_1) = false := decide_eq_false c40
            clear c40
            have H' := As H
            clear H
            try go_wp2
            replace BK387 := As (blk_drew BK387.out)
            replace HB := As (below_drew1 HB.out)
            refine start_ (n := 14) (S := fun w' => True) (ds := []) #[O, O, O, O, O, O, O, O, O, O, O, O, O, O] (by kernel_rfl) rfl rfl trivial (fun hHeld => ?_); refine with_tabW intrusionref09_Write.tab12 intrusionref09_Write.bits12 (fun HT_ HW_ => ?_)
            generalize wc.drew = w47 at BK387 HB hHeld ⊢
            refine kP 0 61 #[I, O, O, O, O, O, O, O, O, O, O, O, O, O] ?_ (any_of HT_.out (by kernel_rfl))
            refine kP 1 62 #[I, I, O, O, O, O, O, O, O, O, O, O, O, O] ?_ (any_of HT_.out (by kernel_rfl))
            refine kP 2 63 #[I, I, I, O, O, O, O, O, O, O, O, O, O, O] ?_ (any_of HT_.out (by kernel_rfl))
            refine pure_ (i := 3) (N := some 64) (v := undef) (a' := ?_) #[I, I, I, I, O, O, O, O, O, O, O, O, O, O] rfl rfl (any_of HT_.out (by kernel_rfl)) (fun _ _ _ h => h) (Or.inr ⟨by rfl, rfl⟩) ?_ ?_
            rotate_left
            ·simp only [Act.put, sA, sZ, sS, i64_w, i32_w]
             rfl
            refine pure_ (i := 4) (N := some 65) (v := undef) (a' := ?_) #[I, I, I, I, I, O, O, O, O, O, O, O, O, O] rfl rfl (any_of HT_.out (by kernel_rfl)) (fun _ _ _ h => h) (Or.inr ⟨by rfl, rfl⟩) ?_ ?_
            rotate_left
            ·simp only [Act.put, sA, sZ, sS, i64_w, i32_w]
             rfl
            refine pure_ (i := 5) (N := some 66) (v := undef) (a' := ?_) #[I, I, I, I, I, I, O, O, O, O, O, O, O, O] rfl rfl (any_of HT_.out (by kernel_rfl)) (fun _ _ _ h => h) (Or.inr ⟨by rfl, rfl⟩) ?_ ?_
            rotate_left
            ·simp only [Act.put, sA, sZ, sS, i64_w, i32_w]
             rfl
            refine pure_ (i := 6) (N := some 67) (v := undef) (a' := ?_) #[I, I, I, I, I, I, I, O, O, O, O, O, O, O] rfl rfl (any_of HT_.out (by kernel_rfl)) (fun _ _ _ h => h) (Or.inr ⟨by rfl, rfl⟩) ?_ ?_
            rotate_left
            ·simp only [Act.put, sA, sZ, sS, i64_w, i32_w]
             rfl
            refine pure_ (i := 7) (N := some 68) (v := undef) (a' := ?_) #[I, I, I, I, I, I, I, I, O, O, O, O, O, O] rfl rfl (any_of HT_.out (by kernel_rfl)) (fun _ _ _ h => h) (Or.inr ⟨by rfl, rfl⟩) ?_ ?_
            rotate_left
            ·simp only [Act.put, sA, sZ, sS, i64_w, i32_w]
             rfl
            refine pure_ (i := 8) (N := some 69) (v := undef) (a' := ?_) #[I, I, I, I, I, I, I, I, I, O, O, O, O, O] rfl rfl (any_of HT_.out (by kernel_rfl)) (fun _ _ _ h => h) (Or.inr ⟨by rfl, rfl⟩) ?_ ?_
            rotate_left
            ·simp only [Act.put, sA, sZ, sS, i64_w, i32_w]
             rfl
            refine pure_ (i := 9) (N := some 70) (v := undef) (a' := ?_) #[I, I, I, I, I, I, I, I, I, I, O, O, O, O] rfl rfl (any_of HT_.out (by kernel_rfl)) (fun _ _ _ h => h) (Or.inr ⟨by rfl, rfl⟩) ?_ ?_
            rotate_left
            ·simp only [Act.put, sA, sZ, sS, i64_w, i32_w]
             rfl
            refine pure_ (i := 10) (N := some 71) (v := undef) (a' := ?_) #[I, I, I, I, I, I, I, I, I, I, I, O, O, O] rfl rfl (any_of HT_.out (by kernel_rfl)) (fun _ _ _ h => h) (Or.inr ⟨by rfl, rfl⟩) ?_ ?_
            rotate_left
            ·simp only [Act.put, sA, sZ, sS, i64_w, i32_w]
             rfl
            refine pure_ (i := 11) (N := some 72) (v := undef) (a' := ?_) #[I, I, I, I, I, I, I, I, I, I, I, I, O, O] rfl rfl (any_of HT_.out (by kernel_rfl)) (fun _ _ _ h => h) (Or.inr ⟨by rfl, rfl⟩) ?_ ?_
            rotate_left
            ·simp only [Act.put, sA, sZ, sS, i64_w, i32_w]
             rfl
            refine kP 12 73 #[I, I, I, I, I, I, I, I, I, I, I, I, I, O] ?_ (any_of HT_.out (by kernel_rfl))
            refine kP 13 60 #[I, I, I, I, I, I, I, I, I, I, I, I, I, I] ?_ (any_of HT_.out (by kernel_rfl))
            refine done_ (done_of HT_.out (by kernel_rfl)) ?_
            try go_wp2
            go_meet
            case rel => exact ⟨_, H', ⟨by have := HK1.out; have := HJ29.out; first | omega | exact Nat.le_refl _⟩, ⟨kb BK387.out⟩, ⟨kB1 HB.out GE387.out⟩⟩
          clear HC25
          try clear c23
          try clear c23b0
          try clear c24
          try clear c24b0
          try clear hcz27_0
          try clear hfz27_0
          try clear hx386_0
          try clear hx386_1
          try clear hx386_2
          try clear p386
          try clear q386
          obtain ⟨kq, HA, HJ24, BK387, HB⟩ := hcut
          cases kq with
          | zero => exact absurd HA.out (by simp [intrusionref09_Write.j2])
          | succ kj24 =>
           have H := HA.out
           clear HA
           simp only [intrusionref09_Write.j2] at H
           replace H := Option.bind_eq_some_iff.mp H
           obtain ⟨t389, A480, H⟩ := H
           replace H : ((intrusionref09_put.f kj24 (wrap64 ((Int.tmod ((rd_T33 l0 x5_1).f0) 1000) * 1000)) 4).bind fun t390 => (if t389.size + t390.size ≤ 9223372036854775807 then ((intrusionref09_put.f kj24 (((rd_T33 l0 x5_1).f2).size : Int) 4).bind fun t391 => (if (t389 ++ t390).size + t391.size ≤ 9223372036854775807 then ((intrusionref09_put.f kj24 ((rd_T33 l0 x5_1).f1) 4).bind fun t392 => (if ((t389 ++ t390) ++ t391).size + t392.size ≤ 9223372036854775807 then (if (((t389 ++ t390) ++ t391) ++ t392).size + ((rd_T33 l0 x5_1).f2).size ≤ 9223372036854775807 then (if x4_1.size + ((((t389 ++ t390) ++ t391) ++ t392) ++ ((rd_T33 l0 x5_1).f2)).size ≤ 9223372036854775807 then (intrusionref09_Write.l0 kj24 l0 (x4_1 ++ ((((t389 ++ t390) ++ t391) ++ t392) ++ ((rd_T33 l0 x5_1).f2))) (wrap64 (x5_1 + 1))) else (none)) else (none)) else (none))) else (none))) else (none))) = some (r1, r2) := H
           have A48 := As A480
           clear A480
           replace H := Option.bind_eq_some_iff.mp H
           obtain ⟨t390, A490, H⟩ := H
           replace H : (if t389.size + t390.size ≤ 9223372036854775807 then ((intrusionref09_put.f kj24 (((rd_T33 l0 x5_1).f2).size : Int) 4).bind fun t391 => (if (t389 ++ t390).size + t391.size ≤ 9223372036854775807 then ((intrusionref09_put.f kj24 ((rd_T33 l0 x5_1).f1) 4).bind fun t392 => (if ((t389 ++ t390) ++ t391).size + t392.size ≤ 9223372036854775807 then (if (((t389 ++ t390) ++ t391) ++ t392).size + ((rd_T33 l0 x5_1).f2).size ≤ 9223372036854775807 then (if x4_1.size + ((((t389 ++ t390) ++ t391) ++ t392) ++ ((rd_T33 l0 x5_1).f2)).size ≤ 9223372036854775807 then (intrusionref09_Write.l0 kj24 l0 (x4_1 ++ ((((t389 ++ t390) ++ t391) ++ t392) ++ ((rd_T33 l0 x5_1).f2))) (wrap64 (x5_1 + 1))) else (none)) else (none)) else (none))) else (none))) else (none)) = some (r1, r2) := H
           have A49 := As A490
           clear A490
           by_cases c50 : t389.size + t390.size ≤ 9223372036854775807
           ·rw [if_pos c50] at H
            have c50b0 := eq_true c50
            have c50b1 : decide (t389.size + t390.size ≤ 9223372036854775807) = true := decide_eq_true c50
            try have c50b2 : (9223372036854775807 < t389.size + t390.size) = False := eq_false (Nat.not_lt.2 c50)
            replace H := Option.bind_eq_some_iff.mp H
            obtain ⟨t391, A510, H⟩ := H
            replace H : (if (t389 ++ t390).size + t391.size ≤ 9223372036854775807 then ((intrusionref09_put.f kj24 ((rd_T33 l0 x5_1).f1) 4).bind fun t392 => (if ((t389 ++ t390) ++ t391).size + t392.size ≤ 9223372036854775807 then (if (((t389 ++ t390) ++ t391) ++ t392).size + ((rd_T33 l0 x5_1).f2).size ≤ 9223372036854775807 then (if x4_1.size + ((((t389 ++ t390) ++ t391) ++ t392) ++ ((rd_T33 l0 x5_1).f2)).size ≤ 9223372036854775807 then (intrusionref09_Write.l0 kj24 l0 (x4_1 ++ ((((t389 ++ t390) ++ t391) ++ t392) ++ ((rd_T33 l0 x5_1).f2))) (wrap64 (x5_1 + 1))) else (none)) else (none)) else (none))) else (none)) = some (r1, r2) := H
            have A51 := As A510
            clear A510
            by_cases c52 : (t389 ++ t390).size + t391.size ≤ 9223372036854775807
            ·rw [if_pos c52] at H
             have c52b0 := eq_true c52
             have c52b1 : decide ((t389 ++ t390).size + t391.size ≤ 9223372036854775807) = true := decide_eq_true c52
             (try (have c52s0 : (9223372036854775807 < (t389.size + t390.size) + t391.size) = False := by have h_ := c52; simp only [ByteArray.size_append, ByteArray.size_extract] at h_; exact eq_false (by first | omega | (omega))))
             (try (have c52s1 : (9223372036854775807 < t389.size + t390.size + t391.size) = False := by have h_ := c52; simp only [ByteArray.size_append, ByteArray.size_extract] at h_; exact eq_false (by first | omega | (omega))))
             (try (have c52s2 : ((t389.size + t390.size) + t391.size ≤ 9223372036854775807) = True := by have h_ := c52; simp only [ByteArray.size_append, Int.natCast_add, Int.toNat_natCast] at h_; first | exact eq_true h_ | exact eq_true (by omega)))
             (try (have c52s3 : decide ((t389.size + t390.size) + t391.size ≤ 9223372036854775807) = true := by have h_ := c52; first | (simp only [ByteArray.size_append, Int.toNat_natCast] at h_; first | exact beq_iff_eq.mpr h_ | exact beq_eq_false_iff_ne.mpr h_ | exact bne_iff_ne.mpr h_ | exact bne_eq_false_iff_eq.mpr h_ | (rw [beq_iff_eq.mpr h_]; rfl) | (rw [beq_eq_false_iff_ne.mpr h_]; rfl)) | (simp only [ByteArray.size_append, Int.natCast_add, Int.toNat_natCast] at h_ ⊢; first | exact h_ | simpa using h_ | simp [h_] | omega) | (simp only [ByteArray.size_append] at h_; simp at h_ ⊢; omega) | (simp only [ByteArray.size_append, Int.natCast_add, Int.toNat_natCast] at h_; simpa using h_)))
             try have c52b2 : (9223372036854775807 < (t389 ++ t390).size + t391.size) = False := eq_false (Nat.not_lt.2 c52)
             replace H := Option.bind_eq_some_iff.mp H
             obtain ⟨t392, A530, H⟩ := H
             replace H : (if ((t389 ++ t390) ++ t391).size + t392.size ≤ 9223372036854775807 then (if (((t389 ++ t390) ++ t391) ++ t392).size + ((rd_T33 l0 x5_1).f2).size ≤ 9223372036854775807 then (if x4_1.size + ((((t389 ++ t390) ++ t391) ++ t392) ++ ((rd_T33 l0 x5_1).f2)).size ≤ 9223372036854775807 then (intrusionref09_Write.l0 kj24 l0 (x4_1 ++ ((((t389 ++ t390) ++ t391) ++ t392) ++ ((rd_T33 l0 x5_1).f2))) (wrap64 (x5_1 + 1))) else (none)) else (none)) else (none)) = some (r1, r2) := H
             have A53 := As A530
             clear A530
             by_cases c54 : ((t389 ++ t390) ++ t391).size + t392.size ≤ 9223372036854775807
             ·rw [if_pos c54] at H
              have c54b0 := eq_true c54
              have c54b1 : decide (((t389 ++ t390) ++ t391).size + t392.size ≤ 9223372036854775807) = true := decide_eq_true c54
              (try (have c54s0 : (9223372036854775807 < (t389.size + t390.size + t391.size) + t392.size) = False := by have h_ := c54; simp only [ByteArray.size_append, ByteArray.size_extract] at h_; exact eq_false (by first | omega | (omega))))
              (try (have c54s1 : (9223372036854775807 < t389.size + t390.size + t391.size + t392.size) = False := by have h_ := c54; simp only [ByteArray.size_append, ByteArray.size_extract] at h_; exact eq_false (by first | omega | (omega))))
              (try (have c54s2 : ((t389.size + t390.size + t391.size) + t392.size ≤ 9223372036854775807) = True := by have h_ := c54; simp only [ByteArray.size_append, Int.natCast_add, Int.toNat_natCast] at h_; first | exact eq_true h_ | exact eq_true (by omega)))
              (try (have c54s3 : decide ((t389.size + t390.size + t391.size) + t392.size ≤ 9223372036854775807) = true := by have h_ := c54; first | (simp only [ByteArray.size_append, Int.toNat_natCast] at h_; first | exact beq_iff_eq.mpr h_ | exact beq_eq_false_iff_ne.mpr h_ | exact bne_iff_ne.mpr h_ | exact bne_eq_false_iff_eq.mpr h_ | (rw [beq_iff_eq.mpr h_]; rfl) | (rw [beq_eq_false_iff_ne.mpr h_]; rfl)) | (simp only [ByteArray.size_append, Int.natCast_add, Int.toNat_natCast] at h_ ⊢; first | exact h_ | simpa using h_ | simp [h_] | omega) | (simp only [ByteArray.size_append] at h_; simp at h_ ⊢; omega) | (simp only [ByteArray.size_append, Int.natCast_add, Int.toNat_natCast] at h_; simpa using h_)))
              try have c54b2 : (9223372036854775807 < ((t389 ++ t390) ++ t391).size + t392.size) = False := eq_false (Nat.not_lt.2 c54)
              by_cases c55 : (((t389 ++ t390) ++ t391) ++ t392).size + ((rd_T33 l0 x5_1).f2).size ≤ 9223372036854775807
              ·rw [if_pos c55] at H
               have c55b0 := eq_true c55
               have c55b1 : decide ((((t389 ++ t390) ++ t391) ++ t392).size + ((rd_T33 l0 x5_1).f2).size ≤ 9223372036854775807) = true := decide_eq_true c55
               (try (have c55s0 : (9223372036854775807 < (t389.size + t390.size + t391.size + t392.size) + ((rd_T33 l0 x5_1).f2).size) = False := by have h_ := c55; simp only [ByteArray.size_append, ByteArray.size_extract] at h_; exact eq_false (by first | omega | (omega))))
               (try (have c55s1 : (9223372036854775807 < t389.size + t390.size + t391.size + t392.size + rd_T33 l0 x5_1.f2.size) = False := by have h_ := c55; simp only [ByteArray.size_append, ByteArray.size_extract] at h_; exact eq_false (by first | omega | (omega))))
               (try (have c55s2 : ((t389.size + t390.size + t391.size + t392.size) + ((rd_T33 l0 x5_1).f2).size ≤ 9223372036854775807) = True := by have h_ := c55; simp only [ByteArray.size_append, Int.natCast_add, Int.toNat_natCast] at h_; first | exact eq_true h_ | exact eq_true (by omega)))
               (try (have c55s3 : decide ((t389.size + t390.size + t391.size + t392.size) + ((rd_T33 l0 x5_1).f2).size ≤ 9223372036854775807) = true := by have h_ := c55; first | (simp only [ByteArray.size_append, Int.toNat_natCast] at h_; first | exact beq_iff_eq.mpr h_ | exact beq_eq_false_iff_ne.mpr h_ | exact bne_iff_ne.mpr h_ | exact bne_eq_false_iff_eq.mpr h_ | (rw [beq_iff_eq.mpr h_]; rfl) | (rw [beq_eq_false_iff_ne.mpr h_]; rfl)) | (simp only [ByteArray.size_append, Int.natCast_add, Int.toNat_natCast] at h_ ⊢; first | exact h_ | simpa using h_ | simp [h_] | omega) | (simp only [ByteArray.size_append] at h_; simp at h_ ⊢; omega) | (simp only [ByteArray.size_append, Int.natCast_add, Int.toNat_natCast] at h_; simpa using h_)))
               try have c55b2 : (9223372036854775807 < (((t389 ++ t390) ++ t391) ++ t392).size + ((rd_T33 l0 x5_1).f2).size) = False := eq_false (Nat.not_lt.2 c55)
               by_cases c56 : x4_1.size + ((((t389 ++ t390) ++ t391) ++ t392) ++ ((rd_T33 l0 x5_1).f2)).size ≤ 9223372036854775807
               ·rw [if_pos c56] at H
                have c56b0 := eq_true c56
                have c56b1 : decide (x4_1.size + ((((t389 ++ t390) ++ t391) ++ t392) ++ ((rd_T33 l0 x5_1).f2)).size ≤ 9223372036854775807) = true := decide_eq_true c56
                (try (have c56s0 : (9223372036854775807 < x4_1.size + (t389.size + t390.size + t391.size + t392.size + ((rd_T33 l0 x5_1).f2).size)) = False := by have h_ := c56; simp only [ByteArray.size_append, ByteArray.size_extract] at h_; exact eq_false (by first | omega | (omega))))
                (try (have c56s1 : (9223372036854775807 < x4_1.size + t389.size + t390.size + t391.size + t392.size + rd_T33 l0 x5_1.f2.size) = False := by have h_ := c56; simp only [ByteArray.size_append, ByteArray.size_extract] at h_; exact eq_false (by first | omega | (omega))))
                (try (have c56s2 : (x4_1.size + (t389.size + t390.size + t391.size + t392.size + ((rd_T33 l0 x5_1).f2).size) ≤ 9223372036854775807) = True := by have h_ := c56; simp only [ByteArray.size_append, Int.natCast_add, Int.toNat_natCast] at h_; first | exact eq_true h_ | exact eq_true (by omega)))
                (try (have c56s3 : decide (x4_1.size + (t389.size + t390.size + t391.size + t392.size + ((rd_T33 l0 x5_1).f2).size) ≤ 9223372036854775807) = true := by have h_ := c56; first | (simp only [ByteArray.size_append, Int.toNat_natCast] at h_; first | exact beq_iff_eq.mpr h_ | exact beq_eq_false_iff_ne.mpr h_ | exact bne_iff_ne.mpr h_ | exact bne_eq_false_iff_eq.mpr h_ | (rw [beq_iff_eq.mpr h_]; rfl) | (rw [beq_eq_false_iff_ne.mpr h_]; rfl)) | (simp only [ByteArray.size_append, Int.natCast_add, Int.toNat_natCast] at h_ ⊢; first | exact h_ | simpa using h_ | simp [h_] | omega) | (simp only [ByteArray.size_append] at h_; simp at h_ ⊢; omega) | (simp only [ByteArray.size_append, Int.natCast_add, Int.toNat_natCast] at h_; simpa using h_)))
                try have c56b2 : (9223372036854775807 < x4_1.size + ((((t389 ++ t390) ++ t391) ++ t392) ++ ((rd_T33 l0 x5_1).f2)).size) = False := eq_false (Nat.not_lt.2 c56)
                have H' := As H
                clear H
                try go_wp2
                replace BK387 := As (blk_drew BK387.out)
                replace HB := As (below_drew1 HB.out)
                refine start_ (n := 25) (S := fun w' => w'.cell? ⟨gb387, 0, none⟩ = some (.int .i64 ((rd_T33 l0 x5_1).f0)) ∧ w'.cell? ⟨gb387, 1, none⟩ = some (.int .i64 ((rd_T33 l0 x5_1).f1)) ∧ w'.cell? ⟨gb387, 2, none⟩ = some (.string ((rd_T33 l0 x5_1).f2))) (ds := []) #[O, O, O, O, O, O, O, O, O, O, O, O, O, O, O, O, O, O, O, O, O, O, O, O, O] (by kernel_rfl) rfl rfl ⟨kC BK387.out 0, kC BK387.out 1, kC BK387.out 2⟩ (fun hHeld => ?_); refine with_tabW intrusionref09_Write.tab14 intrusionref09_Write.bits14 (fun HT_ HW_ => ?_)
                generalize wc.drew = w57 at BK387 HB hHeld ⊢
                refine kP 0 74 #[I, O, O, O, O, O, O, O, O, O, O, O, O, O, O, O, O, O, O, O, O, O, O, O, O] ?_ (any_of HT_.out (by kernel_rfl))
                refine kP 1 75 #[I, I, O, O, O, O, O, O, O, O, O, O, O, O, O, O, O, O, O, O, O, O, O, O, O] ?_ (any_of HT_.out (by kernel_rfl))
                refine kP 5 79 #[I, I, O, O, O, I, O, O, O, O, O, O, O, O, O, O, O, O, O, O, O, O, O, O, O] ?_ (any_of HT_.out (by kernel_rfl))
                refine kP 11 85 #[I, I, O, O, O, I, O, O, O, O, O, I, O, O, O, O, O, O, O, O, O, O, O, O, O] ?_ (any_of HT_.out (by kernel_rfl))
                refine kP 16 90 #[I, I, O, O, O, I, O, O, O, O, O, I, O, O, O, O, I, O, O, O, O, O, O, O, O] ?_ (any_of HT_.out (by kernel_rfl))
                refine kP 20 94 #[I, I, O, O, O, I, O, O, O, O, O, I, O, O, O, O, I, O, O, O, I, O, O, O, O] ?_ (any_of HT_.out (by kernel_rfl))
                refine take_ (i := 2) (N := some 76) (v := ?_) (a' := ?_) #[I, I, I, O, O, I, O, O, O, O, O, I, O, O, O, O, I, O, O, O, I, O, O, O, O] rfl rfl (take_ofW HT_.out HW_.out (by kernel_rfl)) (fun _ _ _ h => h) (Or.inl ⟨by rfl, ?_⟩) hHeld ?_ ?_
                rotate_left
                ·rintro w' ⟨s0, s1, s2⟩
                 go_simp
                 with_reducible rfl
                rotate_left
                ·simp only [Act.put, sA, sZ, sS, i64_w, i32_w]
                 rfl
                refine kP 3 77 #[I, I, I, I, O, I, O, O, O, O, O, I, O, O, O, O, I, O, O, O, I, O, O, O, O] ?_ (any_of HT_.out (by kernel_rfl))
                refine take_ (i := 6) (N := some 80) (v := ?_) (a' := ?_) #[I, I, I, I, O, I, I, O, O, O, O, I, O, O, O, O, I, O, O, O, I, O, O, O, O] rfl rfl (take_ofW HT_.out HW_.out (by kernel_rfl)) (fun _ _ _ h => h) (Or.inl ⟨by rfl, ?_⟩) hHeld ?_ ?_
                rotate_left
                ·rintro w' ⟨s0, s1, s2⟩
                 go_simp
                 with_reducible rfl
                rotate_left
                ·simp only [Act.put, sA, sZ, sS, i64_w, i32_w]
                 rfl
                refine kP 7 81 #[I, I, I, I, O, I, I, I, O, O, O, I, O, O, O, O, I, O, O, O, I, O, O, O, O] ?_ (any_of HT_.out (by kernel_rfl))
                refine kP 8 82 #[I, I, I, I, O, I, I, I, I, O, O, I, O, O, O, O, I, O, O, O, I, O, O, O, O] ?_ (any_of HT_.out (by kernel_rfl))
                refine take_ (i := 12) (N := some 86) (v := ?_) (a' := ?_) #[I, I, I, I, O, I, I, I, I, O, O, I, I, O, O, O, I, O, O, O, I, O, O, O, O] rfl rfl (take_ofW HT_.out HW_.out (by kernel_rfl)) (fun _ _ _ h => h) (Or.inl ⟨by rfl, ?_⟩) hHeld ?_ ?_
                rotate_left
                ·rintro w' ⟨s0, s1, s2⟩
                 go_simp
                 with_reducible rfl
                rotate_left
                ·simp only [Act.put, sA, sZ, sS, i64_w, i32_w]
                 rfl
                refine kP 13 87 #[I, I, I, I, O, I, I, I, I, O, O, I, I, I, O, O, I, O, O, O, I, O, O, O, O] ?_ (any_of HT_.out (by kernel_rfl))
                refine take_ (i := 17) (N := some 91) (v := ?_) (a' := ?_) #[I, I, I, I, O, I, I, I, I, O, O, I, I, I, O, O, I, I, O, O, I, O, O, O, O] rfl rfl (take_ofW HT_.out HW_.out (by kernel_rfl)) (fun _ _ _ h => h) (Or.inl ⟨by rfl, ?_⟩) hHeld ?_ ?_
                rotate_left
                ·rintro w' ⟨s0, s1, s2⟩
                 go_simp
                 with_reducible rfl
                rotate_left
                ·simp only [Act.put, sA, sZ, sS, i64_w, i32_w]
                 rfl
                refine take_ (i := 21) (N := some 95) (v := ?_) (a' := ?_) #[I, I, I, I, O, I, I, I, I, O, O, I, I, I, O, O, I, I, O, O, I, I, O, O, O] rfl rfl (take_ofW HT_.out HW_.out (by kernel_rfl)) (fun _ _ _ h => h) (Or.inl ⟨by rfl, ?_⟩) hHeld ?_ ?_
                rotate_left
                ·rintro w' ⟨s0, s1, s2⟩
                 go_simp
                 with_reducible rfl
                rotate_left
                ·simp only [Act.put, sA, sZ, sS, i64_w, i32_w]
                 rfl
                refine one_ (i := 4) (N := some 78) #[I, I, I, I, I, I, I, I, I, O, O, I, I, I, O, O, I, I, O, O, I, I, O, O, O] rfl rfl (one_of HT_.out (by kernel_rfl)) (by decide) (fun K hK => ?_)
                refine goes_ Try.func27 (by kernel_rfl) rfl #[.int .i64 (wrap64 (Int.tdiv ((rd_T33 l0 x5_1).f0) 1000)), .int .i64 4] (by rfl) rfl rfl kA ?_
                with_reducible refine (intrusionref09_put.calls kj24 (wrap64 (Int.tdiv ((rd_T33 l0 x5_1).f0) 1000)) 4 t389 _ A48.out).mono ?_
                rintro e w58 ⟨rfl, hb⟩
                refine ⟨_, rfl, ?_⟩
                replace BK387 := As (blk_below (kb BK387.out) hb)
                replace HB := As (below_step (kB1 HB.out GE387.out) hb)
                (try clear hb)
                (try clear hb2)
                (try clear hk)
                (try clear hi)
                refine hK.out _ _ ⟨kC BK387.out 0, kC BK387.out 1, kC BK387.out 2⟩ (fun hHeld => ?_)
                clear hK K
                refine norm_ (a' := ?_) ?_ ?_
                rotate_left
                ·show Act.put _ (some 78) _ = _
                 simp only [Act.put, sA, sZ, sS, i64_w, i32_w]
                 rfl
                refine one_ (i := 9) (N := some 83) #[I, I, I, I, I, I, I, I, I, I, O, I, I, I, O, O, I, I, O, O, I, I, O, O, O] rfl rfl (one_of HT_.out (by kernel_rfl)) (by decide) (fun K hK => ?_)
                refine goes_ Try.func27 (by kernel_rfl) rfl #[.int .i64 (wrap64 ((Int.tmod ((rd_T33 l0 x5_1).f0) 1000) * 1000)), .int .i64 4] (by rfl) rfl rfl kA ?_
                with_reducible refine (intrusionref09_put.calls kj24 (wrap64 ((Int.tmod ((rd_T33 l0 x5_1).f0) 1000) * 1000)) 4 t390 _ A49.out).mono ?_
                rintro e w59 ⟨rfl, hb⟩
                refine ⟨_, rfl, ?_⟩
                replace BK387 := As (blk_below (kb BK387.out) hb)
                replace HB := As (below_step (kB1 HB.out GE387.out) hb)
                (try clear hb)
                (try clear hb2)
                (try clear hk)
                (try clear hi)
                refine hK.out _ _ ⟨kC BK387.out 0, kC BK387.out 1, kC BK387.out 2⟩ (fun hHeld => ?_)
                clear hK K
                refine norm_ (a' := ?_) ?_ ?_
                rotate_left
                ·show Act.put _ (some 83) _ = _
                 simp only [Act.put, sA, sZ, sS, i64_w, i32_w]
                 rfl
                refine kP 10 84 #[I, I, I, I, I, I, I, I, I, I, I, I, I, I, O, O, I, I, O, O, I, I, O, O, O] ?_ (any_of HT_.out (by kernel_rfl))
                refine one_ (i := 14) (N := some 88) #[I, I, I, I, I, I, I, I, I, I, I, I, I, I, I, O, I, I, O, O, I, I, O, O, O] rfl rfl (one_of HT_.out (by kernel_rfl)) (by decide) (fun K hK => ?_)
                refine goes_ Try.func27 (by kernel_rfl) rfl #[.int .i64 (((rd_T33 l0 x5_1).f2).size : Int), .int .i64 4] (by rfl) rfl rfl kA ?_
                with_reducible refine (intrusionref09_put.calls kj24 (((rd_T33 l0 x5_1).f2).size : Int) 4 t391 _ A51.out).mono ?_
                rintro e w60 ⟨rfl, hb⟩
                refine ⟨_, rfl, ?_⟩
                replace BK387 := As (blk_below (kb BK387.out) hb)
                replace HB := As (below_step (kB1 HB.out GE387.out) hb)
                (try clear hb)
                (try clear hb2)
                (try clear hk)
                (try clear hi)
                refine hK.out _ _ ⟨kC BK387.out 0, kC BK387.out 1, kC BK387.out 2⟩ (fun hHeld => ?_)
                clear hK K
                refine norm_ (a' := ?_) ?_ ?_
                rotate_left
                ·show Act.put _ (some 88) _ = _
                 simp only [Act.put, sA, sZ, sS, i64_w, i32_w]
                 rfl
                refine kP 15 89 #[I, I, I, I, I, I, I, I, I, I, I, I, I, I, I, I, I, I, O, O, I, I, O, O, O] ?_ (any_of HT_.out (by kernel_rfl))
                refine one_ (i := 18) (N := some 92) #[I, I, I, I, I, I, I, I, I, I, I, I, I, I, I, I, I, I, I, O, I, I, O, O, O] rfl rfl (one_of HT_.out (by kernel_rfl)) (by decide) (fun K hK => ?_)
                refine goes_ Try.func27 (by kernel_rfl) rfl #[.int .i64 ((rd_T33 l0 x5_1).f1), .int .i64 4] (by rfl) rfl rfl kA ?_
                with_reducible refine (intrusionref09_put.calls kj24 ((rd_T33 l0 x5_1).f1) 4 t392 _ A53.out).mono ?_
                rintro e w61 ⟨rfl, hb⟩
                refine ⟨_, rfl, ?_⟩
                replace BK387 := As (blk_below (kb BK387.out) hb)
                replace HB := As (below_step (kB1 HB.out GE387.out) hb)
                (try clear hb)
                (try clear hb2)
                (try clear hk)
                (try clear hi)
                refine hK.out _ _ ⟨kC BK387.out 0, kC BK387.out 1, kC BK387.out 2⟩ (fun hHeld => ?_)
                clear hK K
                refine norm_ (a' := ?_) ?_ ?_
                rotate_left
                ·show Act.put _ (some 92) _ = _
                 simp only [Act.put, sA, sZ, sS, i64_w, i32_w]
                 rfl
                refine kP 19 93 #[I, I, I, I, I, I, I, I, I, I, I, I, I, I, I, I, I, I, I, I, I, I, O, O, O] ?_ (any_of HT_.out (by kernel_rfl))
                refine kP 22 96 #[I, I, I, I, I, I, I, I, I, I, I, I, I, I, I, I, I, I, I, I, I, I, I, O, O] ?_ (any_of HT_.out (by kernel_rfl))
                refine kP 23 97 #[I, I, I, I, I, I, I, I, I, I, I, I, I, I, I, I, I, I, I, I, I, I, I, I, O] ?_ (any_of HT_.out (by kernel_rfl))
                refine kP 24 4 #[I, I, I, I, I, I, I, I, I, I, I, I, I, I, I, I, I, I, I, I, I, I, I, I, I] ?_ (any_of HT_.out (by kernel_rfl))
                refine done_ (done_of HT_.out (by kernel_rfl)) ?_
                try go_wp2
                go_roundg kj24
                case measure => have := HK1.out; have := HJ24.out; omega
                case rel => exact ⟨(x4_1 ++ ((((t389 ++ t390) ++ t391) ++ t392) ++ ((rd_T33 l0 x5_1).f2))), (wrap64 (x5_1 + 1)), kS, kS, H', ⟨by have := HK1.out; have := HJ24.out; omega⟩, ⟨kB1 HB.out GE387.out⟩⟩
               rw [if_neg c56] at H
               exact absurd H (by simp)
              rw [if_neg c55] at H
              exact absurd H (by simp)
             rw [if_neg c54] at H
             exact absurd H (by simp)
            rw [if_neg c52] at H
            exact absurd H (by simp)
           rw [if_neg c50] at H
           exact absurd H (by simp)
         rw [if_neg c24] at H
         exact absurd H (by simp)
        rw [if_neg c23] at H
        have c23b0 : decide (x5_1 < (l0.length : Int)) = false := decide_eq_false c23
        clear c23
        simp only [Option.some.injEq, Prod.mk.injEq] at H
        obtain ⟨rfl, rfl⟩ := H
        go_wp2
        go_ret2
        exact ⟨kE, by exact kB HB.out⟩
      rw [if_neg c15] at H
      exact absurd H (by simp)
     rw [if_neg c13] at H
     exact absurd H (by simp)
    rw [if_neg c11] at H
    exact absurd H (by simp)
   rw [if_neg c9] at H
   exact absurd H (by simp)
  rw [if_neg c7] at H
  exact absurd H (by simp)
 rw [if_neg c5] at H
 exact absurd H (by simp)

end Go.Proofs.Ytafjmciojeondaa.X
-- short
