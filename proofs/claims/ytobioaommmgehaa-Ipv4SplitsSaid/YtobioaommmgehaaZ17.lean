/- Functions and their walks, printed by xprint.py. -/
import Derived.Test.YtobioaommmgehaaZ0
import Derived.Test.YtobioaommmgehaaZ14
import Derived.Test.YtobioaommmgehaaZ15
import Derived.Test.YtobioaommmgehaaZ16
namespace Go.Proofs.Ytobioaommmgehaa.Z
open Go.RowKit Go.Proofs.YtobioaommmgehaaW.PrintWords Go.Proofs.YtobioaommmgehaaW.PrintLast Go.Proofs.YtobioaommmgehaaW.PrintMore
attribute [local go_sem] max2_int min2_int max_two min_two max_three min_three max_four min_four   -- for this text's walks alone
set_option linter.unusedVariables false
set_option linter.unusedSimpArgs false

theorem nJ {P : Program} {md : Region.Mode} {ops : Array Oper} {Q : Exit → Act → World → Prop} {S : World → Prop} {ds : List Nat} {fuel : Nat} {l : Array Bool} {a a' : Act} {w : World} (h : wpAnyLast P md ops Q S ds fuel l a' w) (ha : a = a' := by first | (simp only [putAll, Act.put, sA, sZ, sS]; done) | (simp only [putAll, Act.put, sA, sZ, sS]; rfl)) : wpAnyLast P md ops Q S ds fuel l a w := norm_ ha h
abbrev h15 (w : World) (g : Nat) (x0 x1 x2 x3 x4 x5 x6 x7 x8 x9 x10 x11 x12 x13 x14 : Value) : Prop := w.cell? ⟨g, 0, none⟩ = some x0 ∧ w.cell? ⟨g, 1, none⟩ = some x1 ∧ w.cell? ⟨g, 2, none⟩ = some x2 ∧ w.cell? ⟨g, 3, none⟩ = some x3 ∧ w.cell? ⟨g, 4, none⟩ = some x4 ∧ w.cell? ⟨g, 5, none⟩ = some x5 ∧ w.cell? ⟨g, 6, none⟩ = some x6 ∧ w.cell? ⟨g, 7, none⟩ = some x7 ∧ w.cell? ⟨g, 8, none⟩ = some x8 ∧ w.cell? ⟨g, 9, none⟩ = some x9 ∧ w.cell? ⟨g, 10, none⟩ = some x10 ∧ w.cell? ⟨g, 11, none⟩ = some x11 ∧ w.cell? ⟨g, 12, none⟩ = some x12 ∧ w.cell? ⟨g, 13, none⟩ = some x13 ∧ w.cell? ⟨g, 14, none⟩ = some x14
/-! ### intrusionref11_Encode: function 16 -/
mutual
def intrusionref11_Encode.j0 : Nat → Bool → Int → Int → Int → Int → Bool → Bool → Int → Bool → Int → Int → Bool → Int → Int → List (S50) → ByteArray → Option (ByteArray × Int)
 | 0, _, _, _, _, _, _, _, _, _, _, _, _, _, _, _, _ => none
 | k + 1, x69, b0, b1, b2, b3, b4, b5, b6, b7, b8, b9, b10, b11, b12, b13, b14 => if x69 = true then (some ((⟨#[]⟩ : ByteArray), 4)) else ((intrusionref11_Need.f k b13).bind fun t421 => (if t421 > 40 then (some ((⟨#[]⟩ : ByteArray), 3)) else ((intrusionref11_Written.f k b13).bind fun t422 => (if (wrap64 ((wrap64 (20 + (t422.size : Int))) + (b14.size : Int))) > 65535 then (some ((⟨#[]⟩ : ByteArray), 3)) else (if b4 = true then (intrusionref11_Encode.j1 k t422 (wrap64 (20 + (t422.size : Int))) (wrap64 ((wrap64 (Int.tdiv b6 8)) + 16384)) b0 b1 b2 b3 b4 b5 b6 b7 b8 b9 b10 b11 b12 b13 b14) else (intrusionref11_Encode.j1 k t422 (wrap64 (20 + (t422.size : Int))) (wrap64 (Int.tdiv b6 8)) b0 b1 b2 b3 b4 b5 b6 b7 b8 b9 b10 b11 b12 b13 b14))))))
def intrusionref11_Encode.j1 : Nat → ByteArray → Int → Int → Int → Int → Int → Int → Bool → Bool → Int → Bool → Int → Int → Bool → Int → Int → List (S50) → ByteArray → Option (ByteArray × Int)
 | 0, _, _, _, _, _, _, _, _, _, _, _, _, _, _, _, _, _, _ => none
 | k + 1, x4, x5, x6, b0, b1, b2, b3, b4, b5, b6, b7, b8, b9, b10, b11, b12, b13, b14 => if b5 = true then (intrusionref11_Encode.j2 k x4 x5 (wrap64 (x6 + 8192)) b0 b1 b2 b3 b4 b5 b6 b7 b8 b9 b10 b11 b12 b13 b14) else (intrusionref11_Encode.j2 k x4 x5 x6 b0 b1 b2 b3 b4 b5 b6 b7 b8 b9 b10 b11 b12 b13 b14)
def intrusionref11_Encode.j2 : Nat → ByteArray → Int → Int → Int → Int → Int → Int → Bool → Bool → Int → Bool → Int → Int → Bool → Int → Int → List (S50) → ByteArray → Option (ByteArray × Int)
 | 0, _, _, _, _, _, _, _, _, _, _, _, _, _, _, _, _, _, _ => none
 | k + 1, x4, x5, x6, b0, b1, b2, b3, b4, b5, b6, b7, b8, b9, b10, b11, b12, b13, b14 => (some (([(wrap64 (64 + (wrap64 (Int.tdiv x5 4)))) % 256, (b0) % 256] : List Int) : List Int)).bind fun y423 => ((intrusionref01_Put.f k (wrap64 (x5 + (b14.size : Int))) 2).bind fun t426 => (if (strOfNums y423).size + t426.size ≤ 9223372036854775807 then ((intrusionref01_Put.f k b1 2).bind fun t427 => (if ((strOfNums y423) ++ t426).size + t427.size ≤ 9223372036854775807 then ((intrusionref01_Put.f k x6 2).bind fun t428 => (if (((strOfNums y423) ++ t426) ++ t427).size + t428.size ≤ 9223372036854775807 then ((some (([(b2) % 256, (b3) % 256] : List Int) : List Int)).bind fun y429 => (if ((((strOfNums y423) ++ t426) ++ t427) ++ t428).size + (strOfNums y429).size ≤ 9223372036854775807 then ((intrusionref06_Bytes.f k b7 b8 b9).bind fun t432 => ((intrusionref06_Bytes.f k b10 b11 b12).bind fun t433 => (if t432.size + t433.size ≤ 9223372036854775807 then (if (t432 ++ t433).size + x4.size ≤ 9223372036854775807 then (if (((((strOfNums y423) ++ t426) ++ t427) ++ t428) ++ (strOfNums y429)).size + 2 ≤ 9223372036854775807 then (if ((((((strOfNums y423) ++ t426) ++ t427) ++ t428) ++ (strOfNums y429)) ++ (⟨#[0, 0]⟩ : ByteArray)).size + ((t432 ++ t433) ++ x4).size ≤ 9223372036854775807 then ((intrusionref02_Sum.f k (((((((strOfNums y423) ++ t426) ++ t427) ++ t428) ++ (strOfNums y429)) ++ (⟨#[0, 0]⟩ : ByteArray)) ++ ((t432 ++ t433) ++ x4))).bind fun t434 => ((intrusionref01_Put.f k t434 2).bind fun t435 => (if (((((strOfNums y423) ++ t426) ++ t427) ++ t428) ++ (strOfNums y429)).size + t435.size ≤ 9223372036854775807 then (if ((((((strOfNums y423) ++ t426) ++ t427) ++ t428) ++ (strOfNums y429)) ++ t435).size + ((t432 ++ t433) ++ x4).size ≤ 9223372036854775807 then (if (((((((strOfNums y423) ++ t426) ++ t427) ++ t428) ++ (strOfNums y429)) ++ t435) ++ ((t432 ++ t433) ++ x4)).size + b14.size ≤ 9223372036854775807 then (some ((((((((strOfNums y423) ++ t426) ++ t427) ++ t428) ++ (strOfNums y429)) ++ t435) ++ ((t432 ++ t433) ++ x4)) ++ b14, 0)) else (none)) else (none)) else (none)))) else (none)) else (none)) else (none)) else (none)))) else (none))) else (none))) else (none))) else (none)))
end
def intrusionref11_Encode.f (k : Nat) (d0 : Int) (d1 : Int) (d2 : Int) (d3 : Int) (d4 : Bool) (d5 : Bool) (d6 : Int) (d7 : Bool) (d8 : Int) (d9 : Int) (d10 : Bool) (d11 : Int) (d12 : Int) (l0_13 : List (S50)) (d14 : ByteArray) : Option (ByteArray × Int) := (intrusionref11_byteSized.f d0).bind fun t415 => (if t415 = true then ((intrusionref11_byteSized.f d2).bind fun t416 => (if t416 = true then ((intrusionref11_byteSized.f d3).bind fun t417 => (if t417 = true then (if d1 < 0 then (intrusionref11_Encode.j0 k true d0 d1 d2 d3 d4 d5 d6 d7 d8 d9 d10 d11 d12 l0_13 d14) else (if d1 > 65535 then (intrusionref11_Encode.j0 k true d0 d1 d2 d3 d4 d5 d6 d7 d8 d9 d10 d11 d12 l0_13 d14) else (if d6 < 0 then (intrusionref11_Encode.j0 k true d0 d1 d2 d3 d4 d5 d6 d7 d8 d9 d10 d11 d12 l0_13 d14) else (if d6 > 65528 then (intrusionref11_Encode.j0 k true d0 d1 d2 d3 d4 d5 d6 d7 d8 d9 d10 d11 d12 l0_13 d14) else (if (Int.tmod d6 8) = 0 then ((intrusionref11_address.f d7 d8 d9).bind fun t418 => (if t418 = true then ((intrusionref11_address.f d10 d11 d12).bind fun t419 => (if t419 = true then ((intrusionref11_Kinds.f k l0_13).bind fun t420 => (intrusionref11_Encode.j0 k (!t420) d0 d1 d2 d3 d4 d5 d6 d7 d8 d9 d10 d11 d12 l0_13 d14)) else (intrusionref11_Encode.j0 k true d0 d1 d2 d3 d4 d5 d6 d7 d8 d9 d10 d11 d12 l0_13 d14))) else (intrusionref11_Encode.j0 k true d0 d1 d2 d3 d4 d5 d6 d7 d8 d9 d10 d11 d12 l0_13 d14))) else (intrusionref11_Encode.j0 k true d0 d1 d2 d3 d4 d5 d6 d7 d8 d9 d10 d11 d12 l0_13 d14)))))) else (intrusionref11_Encode.j0 k true d0 d1 d2 d3 d4 d5 d6 d7 d8 d9 d10 d11 d12 l0_13 d14))) else (intrusionref11_Encode.j0 k true d0 d1 d2 d3 d4 d5 d6 d7 d8 d9 d10 d11 d12 l0_13 d14))) else (intrusionref11_Encode.j0 k true d0 d1 d2 d3 d4 d5 d6 d7 d8 d9 d10 d11 d12 l0_13 d14))
theorem intrusionref11_Encode.mono_l : ∀ k, (∀ y0 y1 y2 y3 y4 y5 y6 y7 y8 y9 y10 y11 y12 y13 y14 y15, LeO (intrusionref11_Encode.j0 k y0 y1 y2 y3 y4 y5 y6 y7 y8 y9 y10 y11 y12 y13 y14 y15) (intrusionref11_Encode.j0 (k + 1) y0 y1 y2 y3 y4 y5 y6 y7 y8 y9 y10 y11 y12 y13 y14 y15)) ∧ (∀ y0 y1 y2 y3 y4 y5 y6 y7 y8 y9 y10 y11 y12 y13 y14 y15 y16 y17, LeO (intrusionref11_Encode.j1 k y0 y1 y2 y3 y4 y5 y6 y7 y8 y9 y10 y11 y12 y13 y14 y15 y16 y17) (intrusionref11_Encode.j1 (k + 1) y0 y1 y2 y3 y4 y5 y6 y7 y8 y9 y10 y11 y12 y13 y14 y15 y16 y17)) ∧ (∀ y0 y1 y2 y3 y4 y5 y6 y7 y8 y9 y10 y11 y12 y13 y14 y15 y16 y17, LeO (intrusionref11_Encode.j2 k y0 y1 y2 y3 y4 y5 y6 y7 y8 y9 y10 y11 y12 y13 y14 y15 y16 y17) (intrusionref11_Encode.j2 (k + 1) y0 y1 y2 y3 y4 y5 y6 y7 y8 y9 y10 y11 y12 y13 y14 y15 y16 y17))
 | 0 => ⟨fun _ _ _ _ _ _ _ _ _ _ _ _ _ _ _ _ r h => by simp [intrusionref11_Encode.j0] at h, fun _ _ _ _ _ _ _ _ _ _ _ _ _ _ _ _ _ _ r h => by simp [intrusionref11_Encode.j1] at h, fun _ _ _ _ _ _ _ _ _ _ _ _ _ _ _ _ _ _ r h => by simp [intrusionref11_Encode.j2] at h⟩
 | k + 1 => by
  obtain ⟨ih0, ih1, ih2⟩ := intrusionref11_Encode.mono_l k
  refine ⟨?_, ?_, ?_⟩
  ·intro y0 y1 y2 y3 y4 y5 y6 y7 y8 y9 y10 y11 y12 y13 y14 y15
   unfold intrusionref11_Encode.j0
   repeat' first | with_reducible first | apply ih0 | apply ih1 | apply ih2 | apply intrusionref01_Put.mono | apply intrusionref02_Sum.mono | apply intrusionref06_Bytes.mono | apply intrusionref11_Kinds.mono | apply intrusionref11_Need.mono | apply intrusionref11_Written.mono | apply LeO.refl | apply LeO.none | refine LeO.ite ?_ ?_ | refine LeO.bind ?_ (fun _ => ?_)
  ·intro y0 y1 y2 y3 y4 y5 y6 y7 y8 y9 y10 y11 y12 y13 y14 y15 y16 y17
   unfold intrusionref11_Encode.j1
   repeat' first | with_reducible first | apply ih0 | apply ih1 | apply ih2 | apply intrusionref01_Put.mono | apply intrusionref02_Sum.mono | apply intrusionref06_Bytes.mono | apply intrusionref11_Kinds.mono | apply intrusionref11_Need.mono | apply intrusionref11_Written.mono | apply LeO.refl | apply LeO.none | refine LeO.ite ?_ ?_ | refine LeO.bind ?_ (fun _ => ?_)
  intro y0 y1 y2 y3 y4 y5 y6 y7 y8 y9 y10 y11 y12 y13 y14 y15 y16 y17
  unfold intrusionref11_Encode.j2
  repeat' first | with_reducible first | apply ih0 | apply ih1 | apply ih2 | apply intrusionref01_Put.mono | apply intrusionref02_Sum.mono | apply intrusionref06_Bytes.mono | apply intrusionref11_Kinds.mono | apply intrusionref11_Need.mono | apply intrusionref11_Written.mono | apply LeO.refl | apply LeO.none | refine LeO.ite ?_ ?_ | refine LeO.bind ?_ (fun _ => ?_)
theorem intrusionref11_Encode.mono : ∀ a0 a1 a2 a3 a4 a5 a6 a7 a8 a9 a10 a11 a12 a13 a14 k, LeO (intrusionref11_Encode.f k a0 a1 a2 a3 a4 a5 a6 a7 a8 a9 a10 a11 a12 a13 a14) (intrusionref11_Encode.f (k + 1) a0 a1 a2 a3 a4 a5 a6 a7 a8 a9 a10 a11 a12 a13 a14) := by
 intro a0 a1 a2 a3 a4 a5 a6 a7 a8 a9 a10 a11 a12 a13 a14 k
 obtain ⟨ih0, ih1, ih2⟩ := intrusionref11_Encode.mono_l k
 unfold intrusionref11_Encode.f
 repeat' first | with_reducible first | apply ih0 | apply ih1 | apply ih2 | apply intrusionref01_Put.mono | apply intrusionref02_Sum.mono | apply intrusionref06_Bytes.mono | apply intrusionref11_Kinds.mono | apply intrusionref11_Need.mono | apply intrusionref11_Written.mono | apply LeO.refl | apply LeO.none | refine LeO.ite ?_ ?_ | refine LeO.bind ?_ (fun _ => ?_)
def intrusionref11_Encode.T14 : Bool × List (List Nat × List Nat) := (true, [([], []), ([0], [0]), ([1], [1]), ([2], [2]), ([], []), ([4], [4]), ([5], [5]), ([3, 6], [3, 6]), ([7], [7]), ([], []), ([], []), ([10], [10]), ([11], [11]), ([9, 12], [9, 12]), ([13], [13]), ([8, 14], [8, 14]), ([], []), ([16], [16]), ([17, 14], [17]), ([15, 18], [15, 18]), ([], []), ([20, 18], [20]), ([19, 21], [19, 21]), ([], []), ([23], [23]), ([24], [24]), ([], []), ([26], [26]), ([27], [27]), ([25, 28], [25, 28]), ([29], [29]), ([22, 30], [22, 30]), ([31, 21, 0, 1, 2, 3, 4, 5, 6, 7, 8, 9, 10, 11, 12, 13, 14, 15, 16, 17, 18, 19, 20, 21, 22, 23, 24, 25, 26, 27, 28, 29, 30, 31], [31])])
def intrusionref11_Encode.B14 : List Nat := [0, 1, 3, 7, 0, 16, 48, 127, 255, 0, 0, 1024, 3072, 7680, 15872, 32767, 0, 65536, 228864, 524287, 0, 1539584, 4194303, 0, 8388608, 25165824, 0, 67108864, 201326592, 528482304, 1065353216, 2147483647, 4294967295]
theorem intrusionref11_Encode.tab14 : rtab .any (opsOf Try.f16 14) = intrusionref11_Encode.T14 := by kernel_rfl
theorem intrusionref11_Encode.bits14 : waitsOk intrusionref11_Encode.T14.2 intrusionref11_Encode.B14 = true := by kernel_rfl
def intrusionref11_Encode.T15 : Bool × List (List Nat × List Nat) := (true, [([], []), ([0], [0]), ([1], [1]), ([], []), ([3], [3]), ([4, 2], [4]), ([2, 5], [2, 5]), ([], []), ([6, 7], [6, 7]), ([8, 5, 0, 1, 2, 3, 4, 5, 6, 7, 8], [8])])
def intrusionref11_Encode.B15 : List Nat := [0, 1, 3, 0, 8, 31, 63, 0, 255, 511]
theorem intrusionref11_Encode.tab15 : rtab .any (opsOf Try.f16 15) = intrusionref11_Encode.T15 := by kernel_rfl
theorem intrusionref11_Encode.bits15 : waitsOk intrusionref11_Encode.T15.2 intrusionref11_Encode.B15 = true := by kernel_rfl
def intrusionref11_Encode.T17 : Bool × List (List Nat × List Nat) := (true, [([], []), ([], []), ([1], [1]), ([0, 2], [0, 2]), ([], []), ([3, 4], [3, 4]), ([], []), ([6], [6]), ([5, 7], [5, 7]), ([8, 2, 0, 1, 2, 3, 4, 5, 6, 7, 8], [8]), ([9, 0, 1, 2, 3, 4, 5, 6, 7, 8, 9], [])])
def intrusionref11_Encode.B17 : List Nat := [0, 0, 2, 7, 0, 31, 0, 64, 255, 511, 1023]
theorem intrusionref11_Encode.tab17 : rtab .any (opsOf Try.f16 17) = intrusionref11_Encode.T17 := by kernel_rfl
theorem intrusionref11_Encode.bits17 : waitsOk intrusionref11_Encode.T17.2 intrusionref11_Encode.B17 = true := by kernel_rfl
set_option maxHeartbeats 8000000 in
set_option maxRecDepth 100000 in
theorem intrusionref11_Encode.calls (k : Nat) (d0 : Int) (d1 : Int) (d2 : Int) (d3 : Int) (d4 : Bool) (d5 : Bool) (d6 : Int) (d7 : Bool) (d8 : Int) (d9 : Int) (d10 : Bool) (d11 : Int) (d12 : Int) (A0_13 : Option Addr) (c0_13 : Nat) (l0_13 : List (S50)) (d14 : ByteArray) (r1 : ByteArray) (r2 : Int) (w : World) (hr0_13 : Kd.C k50 w A0_13 l0_13.length l0_13) (hc0_13 : l0_13.length ≤ c0_13) (h : intrusionref11_Encode.f k d0 d1 d2 d3 d4 d5 d6 d7 d8 d9 d10 d11 d12 l0_13 d14 = some (r1, r2)) :
  Calls Try.prog 16 #[.agg #[.int .i64 d0, .int .i64 d1, .int .i64 d2, .int .i64 d3, .bool d4, .bool d5, .int .i64 d6, .bool d7, .int .u64 d8, .int .u64 d9, .bool d10, .int .u64 d11, .int .u64 d12, .slice A0_13 l0_13.length c0_13, .string d14]] w fun e w' => e = .returned (.tuple #[.string r1, .int .i64 r2]) ∧ Below w.heap.size w w' := by
 have hu28 := Try.underlying28
 have hu25 := Try.underlying25
 have HR0_13 := As hr0_13
 have HC0_13 := As hc0_13
 clear hr0_13 hc0_13
 have HB := As (Below.refl w.heap.size w)
 have H : ((intrusionref11_byteSized.f d0).bind fun t415 => (if t415 = true then ((intrusionref11_byteSized.f d2).bind fun t416 => (if t416 = true then ((intrusionref11_byteSized.f d3).bind fun t417 => (if t417 = true then (if d1 < 0 then (intrusionref11_Encode.j0 k true d0 d1 d2 d3 d4 d5 d6 d7 d8 d9 d10 d11 d12 l0_13 d14) else (if d1 > 65535 then (intrusionref11_Encode.j0 k true d0 d1 d2 d3 d4 d5 d6 d7 d8 d9 d10 d11 d12 l0_13 d14) else (if d6 < 0 then (intrusionref11_Encode.j0 k true d0 d1 d2 d3 d4 d5 d6 d7 d8 d9 d10 d11 d12 l0_13 d14) else (if d6 > 65528 then (intrusionref11_Encode.j0 k true d0 d1 d2 d3 d4 d5 d6 d7 d8 d9 d10 d11 d12 l0_13 d14) else (if (Int.tmod d6 8) = 0 then ((intrusionref11_address.f d7 d8 d9).bind fun t418 => (if t418 = true then ((intrusionref11_address.f d10 d11 d12).bind fun t419 => (if t419 = true then ((intrusionref11_Kinds.f k l0_13).bind fun t420 => (intrusionref11_Encode.j0 k (!t420) d0 d1 d2 d3 d4 d5 d6 d7 d8 d9 d10 d11 d12 l0_13 d14)) else (intrusionref11_Encode.j0 k true d0 d1 d2 d3 d4 d5 d6 d7 d8 d9 d10 d11 d12 l0_13 d14))) else (intrusionref11_Encode.j0 k true d0 d1 d2 d3 d4 d5 d6 d7 d8 d9 d10 d11 d12 l0_13 d14))) else (intrusionref11_Encode.j0 k true d0 d1 d2 d3 d4 d5 d6 d7 d8 d9 d10 d11 d12 l0_13 d14)))))) else (intrusionref11_Encode.j0 k true d0 d1 d2 d3 d4 d5 d6 d7 d8 d9 d10 d11 d12 l0_13 d14))) else (intrusionref11_Encode.j0 k true d0 d1 d2 d3 d4 d5 d6 d7 d8 d9 d10 d11 d12 l0_13 d14))) else (intrusionref11_Encode.j0 k true d0 d1 d2 d3 d4 d5 d6 d7 d8 d9 d10 d11 d12 l0_13 d14))) = some (r1, r2) := h
 clear h
 have HC2 := As H
 clear H
 go_enter Try.func16, Try.ntmps16
 go_upto_region 1 with (first | ((with_reducible refine gate_dst (N := 1) rfl ?_); refine box_event rfl (N := 1) rfl (cs := #[.int .i64 d0, .int .i64 d1, .int .i64 d2, .int .i64 d3, .bool d4, .bool d5, .int .i64 d6, .bool d7, .int .u64 d8, .int .u64 d9, .bool d10, .int .u64 d11, .int .u64 d12, .slice A0_13 l0_13.length c0_13, .string d14]) (t := 28) kG ?_; intro gb414 hg w3 hbox hb; have BK414 := As (hbox); have GW414 := As (gS hg (below_size (kB HB.out))); have GE414 := As (gS hg (below_size (kB HB.out))); replace HB := As (below_step (kB HB.out) hb); clear hb hbox hg))
 (try simp only [Act.put, sA, sZ, sS])
 go_cut [69] (fun v69 wc => ∃ (kq : Nat) (x69_1 : Bool), v69 = .bool x69_1 ∧ Aside0 (intrusionref11_Encode.j0 kq x69_1 d0 d1 d2 d3 d4 d5 d6 d7 d8 d9 d10 d11 d12 l0_13 d14 = some (r1, r2)) ∧ Aside0 (kq ≤ k) ∧ Aside0 (wc.heap[gb414]? = some (.cells #[.int .i64 d0, .int .i64 d1, .int .i64 d2, .int .i64 d3, .bool d4, .bool d5, .int .i64 d6, .bool d7, .int .u64 d8, .int .u64 d9, .bool d10, .int .u64 d11, .int .u64 d12, (.slice A0_13 l0_13.length c0_13), .string d14] 28 (0, 0))) ∧ Aside0 (Below w.heap.size w wc))
 case first =>
  have H := HC2.out
  clear HC2
  replace H := bS H
  obtain ⟨t415, A4, H⟩ := H
  by_cases c5 : t415 = true
  ·subst c5
   rw [if_pos rfl] at H
   replace H := bS H
   obtain ⟨t416, A6, H⟩ := H
   by_cases c7 : t416 = true
   ·subst c7
    rw [if_pos rfl] at H
    replace H := bS H
    obtain ⟨t417, A8, H⟩ := H
    by_cases c9 : t417 = true
    ·subst c9
     rw [if_pos rfl] at H
     by_cases c10 : d1 < 0
     ·rw [if_pos c10] at H
      have c10b0 : decide (d1 < 0) = true := decide_eq_true c10
      clear c10
      (first | rw [c10b0] | (simp only [i64_w, i32_w]; rw [c10b0]) | skip)
      have H' := As H
      clear H
      have hcz11_0 := cells_15 BK414.out
      have hfz11_0 := fun j_ => blk_frozen BK414.out j_
      go_wp2_with (first | ((with_reducible refine gate_callee (f := 39) rfl ?_); refine goesL_ (some 12) rfl rfl Try.func39 (by kernel_rfl) rfl #[.int .i64 d0] rfl kA ?_; (with_reducible refine (intrusionref11_byteSized.calls d0 true _ A4.out).mono ?_); rintro e w' ⟨rfl, ⟨nd, rfl⟩⟩; refine ⟨_, rfl, ?_⟩) | (go_at_call 39; (with_reducible refine (intrusionref11_byteSized.calls d2 true _ A6.out).mono ?_); rintro e w' ⟨rfl, ⟨nd, rfl⟩⟩) | (go_at_call 39; (with_reducible refine (intrusionref11_byteSized.calls d3 true _ A8.out).mono ?_); rintro e w' ⟨rfl, ⟨nd, rfl⟩⟩))
      go_meet
      case rel => exact ⟨_, (true), kS, H', ⟨by first | omega | exact Nat.le_refl _⟩, ⟨kb BK414.out⟩, ⟨kB1 HB.out GE414.out⟩⟩
     rw [if_neg c10] at H
     have c10b0 : decide (d1 < 0) = false := decide_eq_false c10
     clear c10
     (first | rw [c10b0] | (simp only [i64_w, i32_w]; rw [c10b0]) | skip)
     by_cases c12 : d1 > 65535
     ·rw [if_pos c12] at H
      have c12b0 : decide (65535 < d1) = true := decide_eq_true c12
      clear c12
      have H' := As H
      clear H
      have hcz13_0 := cells_15 BK414.out
      have hfz13_0 := fun j_ => blk_frozen BK414.out j_
      go_wp2_with (first | ((with_reducible refine gate_callee (f := 39) rfl ?_); refine goesL_ (some 12) rfl rfl Try.func39 (by kernel_rfl) rfl #[.int .i64 d0] rfl kA ?_; (with_reducible refine (intrusionref11_byteSized.calls d0 true _ A4.out).mono ?_); rintro e w' ⟨rfl, ⟨nd, rfl⟩⟩; refine ⟨_, rfl, ?_⟩) | (go_at_call 39; (with_reducible refine (intrusionref11_byteSized.calls d2 true _ A6.out).mono ?_); rintro e w' ⟨rfl, ⟨nd, rfl⟩⟩) | (go_at_call 39; (with_reducible refine (intrusionref11_byteSized.calls d3 true _ A8.out).mono ?_); rintro e w' ⟨rfl, ⟨nd, rfl⟩⟩))
      go_meet
      case rel => exact ⟨_, (true), kS, H', ⟨by first | omega | exact Nat.le_refl _⟩, ⟨kb BK414.out⟩, ⟨kB1 HB.out GE414.out⟩⟩
     rw [if_neg c12] at H
     have c12b0 : decide (65535 < d1) = false := decide_eq_false c12
     clear c12
     by_cases c14 : d6 < 0
     ·rw [if_pos c14] at H
      have c14b0 : decide (d6 < 0) = true := decide_eq_true c14
      clear c14
      have H' := As H
      clear H
      have hcz15_0 := cells_15 BK414.out
      have hfz15_0 := fun j_ => blk_frozen BK414.out j_
      go_wp2_with (first | ((with_reducible refine gate_callee (f := 39) rfl ?_); refine goesL_ (some 12) rfl rfl Try.func39 (by kernel_rfl) rfl #[.int .i64 d0] rfl kA ?_; (with_reducible refine (intrusionref11_byteSized.calls d0 true _ A4.out).mono ?_); rintro e w' ⟨rfl, ⟨nd, rfl⟩⟩; refine ⟨_, rfl, ?_⟩) | (go_at_call 39; (with_reducible refine (intrusionref11_byteSized.calls d2 true _ A6.out).mono ?_); rintro e w' ⟨rfl, ⟨nd, rfl⟩⟩) | (go_at_call 39; (with_reducible refine (intrusionref11_byteSized.calls d3 true _ A8.out).mono ?_); rintro e w' ⟨rfl, ⟨nd, rfl⟩⟩))
      go_meet
      case rel => exact ⟨_, (true), kS, H', ⟨by first | omega | exact Nat.le_refl _⟩, ⟨kb BK414.out⟩, ⟨kB1 HB.out GE414.out⟩⟩
     rw [if_neg c14] at H
     have c14b0 : decide (d6 < 0) = false := decide_eq_false c14
     clear c14
     by_cases c16 : d6 > 65528
     ·rw [if_pos c16] at H
      have c16b0 : decide (65528 < d6) = true := decide_eq_true c16
      clear c16
      have H' := As H
      clear H
      have hcz17_0 := cells_15 BK414.out
      have hfz17_0 := fun j_ => blk_frozen BK414.out j_
      go_wp2_with (first | ((with_reducible refine gate_callee (f := 39) rfl ?_); refine goesL_ (some 12) rfl rfl Try.func39 (by kernel_rfl) rfl #[.int .i64 d0] rfl kA ?_; (with_reducible refine (intrusionref11_byteSized.calls d0 true _ A4.out).mono ?_); rintro e w' ⟨rfl, ⟨nd, rfl⟩⟩; refine ⟨_, rfl, ?_⟩) | (go_at_call 39; (with_reducible refine (intrusionref11_byteSized.calls d2 true _ A6.out).mono ?_); rintro e w' ⟨rfl, ⟨nd, rfl⟩⟩) | (go_at_call 39; (with_reducible refine (intrusionref11_byteSized.calls d3 true _ A8.out).mono ?_); rintro e w' ⟨rfl, ⟨nd, rfl⟩⟩))
      go_meet
      case rel => exact ⟨_, (true), kS, H', ⟨by first | omega | exact Nat.le_refl _⟩, ⟨kb BK414.out⟩, ⟨kB1 HB.out GE414.out⟩⟩
     rw [if_neg c16] at H
     have c16b0 : decide (65528 < d6) = false := decide_eq_false c16
     clear c16
     by_cases c18 : (Int.tmod d6 8) = 0
     ·rw [if_pos c18] at H
      have c18b0 : ((Int.tmod d6 8) == 0) = true := beq_iff_eq.mpr c18
      have c18b1 : ((Int.tmod d6 8) != 0) = false := bne_eq_false_iff_eq.mpr c18
      clear c18
      replace H := bS H
      obtain ⟨t418, A19, H⟩ := H
      by_cases c20 : t418 = true
      ·subst c20
       rw [if_pos rfl] at H
       replace H := bS H
       obtain ⟨t419, A21, H⟩ := H
       by_cases c22 : t419 = true
       ·subst c22
        rw [if_pos rfl] at H
        replace H := bS H
        obtain ⟨t420, A23, H⟩ := H
        have H' := As H
        clear H
        have hcz24_0 := cells_15 BK414.out
        have hfz24_0 := fun j_ => blk_frozen BK414.out j_
        go_wp2_with (first | ((with_reducible refine gate_callee (f := 39) rfl ?_); refine goesL_ (some 12) rfl rfl Try.func39 (by kernel_rfl) rfl #[.int .i64 d0] rfl kA ?_; (with_reducible refine (intrusionref11_byteSized.calls d0 true _ A4.out).mono ?_); rintro e w' ⟨rfl, ⟨nd, rfl⟩⟩; refine ⟨_, rfl, ?_⟩) | (go_at_call 39; (with_reducible refine (intrusionref11_byteSized.calls d2 true _ A6.out).mono ?_); rintro e w' ⟨rfl, ⟨nd, rfl⟩⟩) | (go_at_call 39; (with_reducible refine (intrusionref11_byteSized.calls d3 true _ A8.out).mono ?_); rintro e w' ⟨rfl, ⟨nd, rfl⟩⟩) | (go_at_call 40; (with_reducible refine (intrusionref11_address.calls d7 d8 d9 true _ A19.out).mono ?_); rintro e w25 ⟨rfl, hb⟩; replace BK414 := As (blk_below (kb BK414.out) hb); replace HB := As (below_step (kB1 HB.out GE414.out) hb); (try clear hb); have hcz26_0 := cells_15 BK414.out; have hfz26_0 := fun j_ => blk_frozen BK414.out j_) | (go_at_call 40; (with_reducible refine (intrusionref11_address.calls d10 d11 d12 true _ A21.out).mono ?_); rintro e w27 ⟨rfl, hb⟩; replace BK414 := As (blk_below (kb BK414.out) hb); replace HB := As (below_step (kB1 HB.out GE414.out) hb); (try clear hb); have hcz28_0 := cells_15 BK414.out; have hfz28_0 := fun j_ => blk_frozen BK414.out j_) | (go_at_call 41; (with_reducible refine (intrusionref11_Kinds.calls k _ _ l0_13 t420 _ ?side1 ?side2 A23.out).mono ?_); (case side1 => repeat (first | exact (Kd.C_below HR0_13.out HB.out) | (with_reducible refine Kd.C_alloc ?_ _) | (with_reducible refine Kd.C_drewN ?_ _) | (with_reducible refine Kd.C_drew ?_))); (case side2 => exact HC0_13.out); rintro e w' ⟨rfl, ⟨nd, rfl⟩⟩))
        go_meet
        case rel => exact ⟨_, (!t420), kS, H', ⟨by first | omega | exact Nat.le_refl _⟩, ⟨kb BK414.out⟩, ⟨kB1 HB.out GE414.out⟩⟩
       replace c22 := Bool.eq_false_iff.mpr c22
       subst c22
       rw [if_neg (show ¬ (false = true) by decide)] at H
       have H' := As H
       clear H
       have hcz29_0 := cells_15 BK414.out
       have hfz29_0 := fun j_ => blk_frozen BK414.out j_
       go_wp2_with (first | ((with_reducible refine gate_callee (f := 39) rfl ?_); refine goesL_ (some 12) rfl rfl Try.func39 (by kernel_rfl) rfl #[.int .i64 d0] rfl kA ?_; (with_reducible refine (intrusionref11_byteSized.calls d0 true _ A4.out).mono ?_); rintro e w' ⟨rfl, ⟨nd, rfl⟩⟩; refine ⟨_, rfl, ?_⟩) | (go_at_call 39; (with_reducible refine (intrusionref11_byteSized.calls d2 true _ A6.out).mono ?_); rintro e w' ⟨rfl, ⟨nd, rfl⟩⟩) | (go_at_call 39; (with_reducible refine (intrusionref11_byteSized.calls d3 true _ A8.out).mono ?_); rintro e w' ⟨rfl, ⟨nd, rfl⟩⟩) | (go_at_call 40; (with_reducible refine (intrusionref11_address.calls d7 d8 d9 true _ A19.out).mono ?_); rintro e w30 ⟨rfl, hb⟩; replace BK414 := As (blk_below (kb BK414.out) hb); replace HB := As (below_step (kB1 HB.out GE414.out) hb); (try clear hb); have hcz31_0 := cells_15 BK414.out; have hfz31_0 := fun j_ => blk_frozen BK414.out j_) | (go_at_call 40; (with_reducible refine (intrusionref11_address.calls d10 d11 d12 false _ A21.out).mono ?_); rintro e w32 ⟨rfl, hb⟩; replace BK414 := As (blk_below (kb BK414.out) hb); replace HB := As (below_step (kB1 HB.out GE414.out) hb); (try clear hb)))
       go_meet
       case rel => exact ⟨_, (true), kS, H', ⟨by first | omega | exact Nat.le_refl _⟩, ⟨kb BK414.out⟩, ⟨kB1 HB.out GE414.out⟩⟩
      replace c20 := Bool.eq_false_iff.mpr c20
      subst c20
      rw [if_neg (show ¬ (false = true) by decide)] at H
      have H' := As H
      clear H
      have hcz33_0 := cells_15 BK414.out
      have hfz33_0 := fun j_ => blk_frozen BK414.out j_
      go_wp2_with (first | ((with_reducible refine gate_callee (f := 39) rfl ?_); refine goesL_ (some 12) rfl rfl Try.func39 (by kernel_rfl) rfl #[.int .i64 d0] rfl kA ?_; (with_reducible refine (intrusionref11_byteSized.calls d0 true _ A4.out).mono ?_); rintro e w' ⟨rfl, ⟨nd, rfl⟩⟩; refine ⟨_, rfl, ?_⟩) | (go_at_call 39; (with_reducible refine (intrusionref11_byteSized.calls d2 true _ A6.out).mono ?_); rintro e w' ⟨rfl, ⟨nd, rfl⟩⟩) | (go_at_call 39; (with_reducible refine (intrusionref11_byteSized.calls d3 true _ A8.out).mono ?_); rintro e w' ⟨rfl, ⟨nd, rfl⟩⟩) | (go_at_call 40; (with_reducible refine (intrusionref11_address.calls d7 d8 d9 false _ A19.out).mono ?_); rintro e w34 ⟨rfl, hb⟩; replace BK414 := As (blk_below (kb BK414.out) hb); replace HB := As (below_step (kB1 HB.out GE414.out) hb); (try clear hb)))
      go_meet
      case rel => exact ⟨_, (true), kS, H', ⟨by first | omega | exact Nat.le_refl _⟩, ⟨kb BK414.out⟩, ⟨kB1 HB.out GE414.out⟩⟩
     rw [if_neg c18] at H
     have c18b0 : ((Int.tmod d6 8) == 0) = false := beq_eq_false_iff_ne.mpr c18
     have c18b1 : ((Int.tmod d6 8) != 0) = true := bne_iff_ne.mpr c18
     have H' := As H
     clear H
     have hcz35_0 := cells_15 BK414.out
     have hfz35_0 := fun j_ => blk_frozen BK414.out j_
     go_wp2_with (first | ((with_reducible refine gate_callee (f := 39) rfl ?_); refine goesL_ (some 12) rfl rfl Try.func39 (by kernel_rfl) rfl #[.int .i64 d0] rfl kA ?_; (with_reducible refine (intrusionref11_byteSized.calls d0 true _ A4.out).mono ?_); rintro e w' ⟨rfl, ⟨nd, rfl⟩⟩; refine ⟨_, rfl, ?_⟩) | (go_at_call 39; (with_reducible refine (intrusionref11_byteSized.calls d2 true _ A6.out).mono ?_); rintro e w' ⟨rfl, ⟨nd, rfl⟩⟩) | (go_at_call 39; (with_reducible refine (intrusionref11_byteSized.calls d3 true _ A8.out).mono ?_); rintro e w' ⟨rfl, ⟨nd, rfl⟩⟩))
     go_meet
     case rel => exact ⟨_, (true), kS, H', ⟨by first | omega | exact Nat.le_refl _⟩, ⟨kb BK414.out⟩, ⟨kB1 HB.out GE414.out⟩⟩
    replace c9 := Bool.eq_false_iff.mpr c9
    subst c9
    rw [if_neg (show ¬ (false = true) by decide)] at H
    have H' := As H
    clear H
    have hcz36_0 := cells_15 BK414.out
    have hfz36_0 := fun j_ => blk_frozen BK414.out j_
    go_wp2_with (first | ((with_reducible refine gate_callee (f := 39) rfl ?_); refine goesL_ (some 12) rfl rfl Try.func39 (by kernel_rfl) rfl #[.int .i64 d0] rfl kA ?_; (with_reducible refine (intrusionref11_byteSized.calls d0 true _ A4.out).mono ?_); rintro e w' ⟨rfl, ⟨nd, rfl⟩⟩; refine ⟨_, rfl, ?_⟩) | (go_at_call 39; (with_reducible refine (intrusionref11_byteSized.calls d2 true _ A6.out).mono ?_); rintro e w' ⟨rfl, ⟨nd, rfl⟩⟩) | (go_at_call 39; (with_reducible refine (intrusionref11_byteSized.calls d3 false _ A8.out).mono ?_); rintro e w' ⟨rfl, ⟨nd, rfl⟩⟩))
    go_meet
    case rel => exact ⟨_, (true), kS, H', ⟨by first | omega | exact Nat.le_refl _⟩, ⟨kb BK414.out⟩, ⟨kB1 HB.out GE414.out⟩⟩
   replace c7 := Bool.eq_false_iff.mpr c7
   subst c7
   rw [if_neg (show ¬ (false = true) by decide)] at H
   have H' := As H
   clear H
   have hcz37_0 := cells_15 BK414.out
   have hfz37_0 := fun j_ => blk_frozen BK414.out j_
   go_wp2_with (first | ((with_reducible refine gate_callee (f := 39) rfl ?_); refine goesL_ (some 12) rfl rfl Try.func39 (by kernel_rfl) rfl #[.int .i64 d0] rfl kA ?_; (with_reducible refine (intrusionref11_byteSized.calls d0 true _ A4.out).mono ?_); rintro e w' ⟨rfl, ⟨nd, rfl⟩⟩; refine ⟨_, rfl, ?_⟩) | (go_at_call 39; (with_reducible refine (intrusionref11_byteSized.calls d2 false _ A6.out).mono ?_); rintro e w' ⟨rfl, ⟨nd, rfl⟩⟩))
   go_meet
   case rel => exact ⟨_, (true), kS, H', ⟨by first | omega | exact Nat.le_refl _⟩, ⟨kb BK414.out⟩, ⟨kB1 HB.out GE414.out⟩⟩
  replace c5 := Bool.eq_false_iff.mpr c5
  subst c5
  rw [if_neg (show ¬ (false = true) by decide)] at H
  have H' := As H
  clear H
  have hcz38_0 := cells_15 BK414.out
  have hfz38_0 := fun j_ => blk_frozen BK414.out j_
  go_wp2_with (first | ((with_reducible refine gate_callee (f := 39) rfl ?_); refine goesL_ (some 12) rfl rfl Try.func39 (by kernel_rfl) rfl #[.int .i64 d0] rfl kA ?_; (with_reducible refine (intrusionref11_byteSized.calls d0 false _ A4.out).mono ?_); rintro e w' ⟨rfl, ⟨nd, rfl⟩⟩; refine ⟨_, rfl, ?_⟩))
  go_meet
  case rel => exact ⟨_, (true), kS, H', ⟨by first | omega | exact Nat.le_refl _⟩, ⟨kb BK414.out⟩, ⟨kB1 HB.out GE414.out⟩⟩
 clear HC2
 obtain ⟨kq, x69_1, rfl, HA, HJ1, BK414, HB⟩ := hcut
 cases kq with
 | zero => exact absurd HA.out (by simp [intrusionref11_Encode.j0])
 | succ kj1 =>
  have H := HA.out
  clear HA
  simp only [intrusionref11_Encode.j0] at H
  by_cases c39 : x69_1 = true
  ·subst c39
   rw [if_pos rfl] at H
   simp only [Option.some.injEq, Prod.mk.injEq] at H
   obtain ⟨rfl, rfl⟩ := H
   go_wp2
   go_ret2
   exact ⟨kE, by exact kB1 HB.out GE414.out⟩
  replace c39 := Bool.eq_false_iff.mpr c39
  subst c39
  rw [if_neg (show ¬ (false = true) by decide)] at H
  replace H := bS H
  obtain ⟨t421, A40, H⟩ := H
  by_cases c41 : t421 > 40
  ·rw [if_pos c41] at H
   have c41b0 : decide (40 < t421) = true := decide_eq_true c41
   clear c41
   simp only [Option.some.injEq, Prod.mk.injEq] at H
   obtain ⟨rfl, rfl⟩ := H
   have hcz42_0 := cells_15 BK414.out
   have hfz42_0 := fun j_ => blk_frozen BK414.out j_
   go_wp2_with (first | ((with_reducible refine gate_callee (f := 42) rfl ?_); refine goesL_ (some 72) rfl rfl Try.func42 (by kernel_rfl) rfl #[.slice A0_13 l0_13.length c0_13] rfl kA ?_; (with_reducible refine (intrusionref11_Need.calls kj1 _ _ l0_13 t421 _ ?side1 ?side2 A40.out).mono ?_); (case side1 => repeat (first | exact (Kd.C_below HR0_13.out HB.out) | (with_reducible refine Kd.C_alloc ?_ _) | (with_reducible refine Kd.C_drewN ?_ _) | (with_reducible refine Kd.C_drew ?_))); (case side2 => exact HC0_13.out); rintro e w43 ⟨rfl, hb⟩; refine ⟨_, rfl, ?_⟩; replace BK414 := As (blk_below (kb BK414.out) hb); replace HB := As (below_step (kB1 HB.out GE414.out) hb); (try clear hb)))
   go_ret2
   exact ⟨kE, by exact kB1 HB.out GE414.out⟩
  rw [if_neg c41] at H
  have c41b0 : decide (40 < t421) = false := decide_eq_false c41
  clear c41
  replace H := bS H
  obtain ⟨t422, A44, H⟩ := H
  by_cases c45 : (wrap64 ((wrap64 (20 + (t422.size : Int))) + (d14.size : Int))) > 65535
  ·rw [if_pos c45] at H
   have c45b0 : decide (65535 < (wrap64 ((wrap64 (20 + (t422.size : Int))) + (d14.size : Int)))) = true := decide_eq_true c45
   clear c45
   simp only [Option.some.injEq, Prod.mk.injEq] at H
   obtain ⟨rfl, rfl⟩ := H
   have hcz46_0 := cells_15 BK414.out
   have hfz46_0 := fun j_ => blk_frozen BK414.out j_
   go_wp2_with (first | ((with_reducible refine gate_callee (f := 42) rfl ?_); refine goesL_ (some 72) rfl rfl Try.func42 (by kernel_rfl) rfl #[.slice A0_13 l0_13.length c0_13] rfl kA ?_; (with_reducible refine (intrusionref11_Need.calls kj1 _ _ l0_13 t421 _ ?side1 ?side2 A40.out).mono ?_); (case side1 => repeat (first | exact (Kd.C_below HR0_13.out HB.out) | (with_reducible refine Kd.C_alloc ?_ _) | (with_reducible refine Kd.C_drewN ?_ _) | (with_reducible refine Kd.C_drew ?_))); (case side2 => exact HC0_13.out); rintro e w47 ⟨rfl, hb⟩; refine ⟨_, rfl, ?_⟩; replace BK414 := As (blk_below (kb BK414.out) hb); replace HB := As (below_step (kB1 HB.out GE414.out) hb); (try clear hb); have hcz48_0 := cells_15 BK414.out; have hfz48_0 := fun j_ => blk_frozen BK414.out j_) | ((with_reducible refine gate_callee (f := 43) rfl ?_); refine goesL_ (some 76) rfl rfl Try.func43 (by kernel_rfl) rfl #[.slice A0_13 l0_13.length c0_13] rfl kA ?_; (with_reducible refine (intrusionref11_Written.calls kj1 _ _ l0_13 t422 _ ?side1 ?side2 A44.out).mono ?_); (case side1 => repeat (first | exact (Kd.C_below HR0_13.out HB.out) | (with_reducible refine Kd.C_alloc ?_ _) | (with_reducible refine Kd.C_drewN ?_ _) | (with_reducible refine Kd.C_drew ?_))); (case side2 => exact HC0_13.out); rintro e w49 ⟨rfl, hb⟩; refine ⟨_, rfl, ?_⟩; replace BK414 := As (blk_below (kb BK414.out) hb); replace HB := As (below_step (kB1 HB.out GE414.out) hb); (try clear hb); have hcz50_0 := cells_15 BK414.out; have hfz50_0 := fun j_ => blk_frozen BK414.out j_))
   go_ret2
   exact ⟨kE, by exact kB1 HB.out GE414.out⟩
  rw [if_neg c45] at H
  have c45b0 : decide (65535 < (wrap64 ((wrap64 (20 + (t422.size : Int))) + (d14.size : Int)))) = false := decide_eq_false c45
  clear c45
  have HC51 := As H
  clear H
  have hcz52_0 := cells_15 BK414.out
  have hfz52_0 := fun j_ => blk_frozen BK414.out j_
  go_upto_if 90 with (first | ((with_reducible refine gate_callee (f := 42) rfl ?_); refine goesL_ (some 72) rfl rfl Try.func42 (by kernel_rfl) rfl #[.slice A0_13 l0_13.length c0_13] rfl kA ?_; (with_reducible refine (intrusionref11_Need.calls kj1 _ _ l0_13 t421 _ ?side1 ?side2 A40.out).mono ?_); (case side1 => repeat (first | exact (Kd.C_below HR0_13.out HB.out) | (with_reducible refine Kd.C_alloc ?_ _) | (with_reducible refine Kd.C_drewN ?_ _) | (with_reducible refine Kd.C_drew ?_))); (case side2 => exact HC0_13.out); rintro e w53 ⟨rfl, hb⟩; refine ⟨_, rfl, ?_⟩; replace BK414 := As (blk_below (kb BK414.out) hb); replace HB := As (below_step (kB1 HB.out GE414.out) hb); (try clear hb); have hcz54_0 := cells_15 BK414.out; have hfz54_0 := fun j_ => blk_frozen BK414.out j_) | ((with_reducible refine gate_callee (f := 43) rfl ?_); refine goesL_ (some 76) rfl rfl Try.func43 (by kernel_rfl) rfl #[.slice A0_13 l0_13.length c0_13] rfl kA ?_; (with_reducible refine (intrusionref11_Written.calls kj1 _ _ l0_13 t422 _ ?side1 ?side2 A44.out).mono ?_); (case side1 => repeat (first | exact (Kd.C_below HR0_13.out HB.out) | (with_reducible refine Kd.C_alloc ?_ _) | (with_reducible refine Kd.C_drewN ?_ _) | (with_reducible refine Kd.C_drew ?_))); (case side2 => exact HC0_13.out); rintro e w55 ⟨rfl, hb⟩; refine ⟨_, rfl, ?_⟩; replace BK414 := As (blk_below (kb BK414.out) hb); replace HB := As (below_step (kB1 HB.out GE414.out) hb); (try clear hb); have hcz56_0 := cells_15 BK414.out; have hfz56_0 := fun j_ => blk_frozen BK414.out j_))
  (try simp only [Act.put, sA, sZ, sS])
  go_cut [6] (fun v6 wc => ∃ (kq : Nat) (x6_50 : Int), v6 = .int .i64 x6_50 ∧ Aside0 (intrusionref11_Encode.j1 kq t422 (wrap64 (20 + (t422.size : Int))) x6_50 d0 d1 d2 d3 d4 d5 d6 d7 d8 d9 d10 d11 d12 l0_13 d14 = some (r1, r2)) ∧ Aside0 (kq ≤ kj1) ∧ Aside0 (wc.heap[gb414]? = some (.cells #[.int .i64 d0, .int .i64 d1, .int .i64 d2, .int .i64 d3, .bool d4, .bool d5, .int .i64 d6, .bool d7, .int .u64 d8, .int .u64 d9, .bool d10, .int .u64 d11, .int .u64 d12, (.slice A0_13 l0_13.length c0_13), .string d14] 28 (0, 0))) ∧ Aside0 (Below w.heap.size w wc))
  case first =>
   have H := HC51.out
   clear HC51
   by_cases c57 : d4 = true
   ·subst c57
    rw [if_pos rfl] at H
    have H' := As H
    clear H
    go_wp2
    go_meet
    case rel => exact ⟨_, (wrap64 ((wrap64 (Int.tdiv d6 8)) + 16384)), kS, H', ⟨by have := HJ1.out; first | omega | exact Nat.le_refl _⟩, ⟨kb BK414.out⟩, ⟨kB1 HB.out GE414.out⟩⟩
   replace c57 := Bool.eq_false_iff.mpr c57
   subst c57
   rw [if_neg (show ¬ (false = true) by decide)] at H
   have H' := As H
   clear H
   go_wp2
   go_meet
   case rel => exact ⟨_, (wrap64 (Int.tdiv d6 8)), kS, H', ⟨by have := HJ1.out; first | omega | exact Nat.le_refl _⟩, ⟨kb BK414.out⟩, ⟨kB1 HB.out GE414.out⟩⟩
  clear HC51
  try clear c39
  try clear c41
  try clear c41b0
  try clear c45
  try clear c45b0
  try clear hcz52_0
  try clear hcz54_0
  try clear hcz56_0
  try clear hfz52_0
  try clear hfz54_0
  try clear hfz56_0
  obtain ⟨kq, x6_50, rfl, HA, HJ50, BK414, HB⟩ := hcut
  cases kq with
  | zero => exact absurd HA.out (by simp [intrusionref11_Encode.j1])
  | succ kj50 =>
   have H := HA.out
   clear HA
   simp only [intrusionref11_Encode.j1] at H
   have HC58 := As H
   clear H
   have hcz59_0 := cells_15 BK414.out
   have hfz59_0 := fun j_ => blk_frozen BK414.out j_
   go_upto_if 94 with (fail)
   go_cut [6] (fun v6 wc => ∃ (kq : Nat) (x6_57 : Int), v6 = .int .i64 x6_57 ∧ Aside0 (intrusionref11_Encode.j2 kq t422 (wrap64 (20 + (t422.size : Int))) x6_57 d0 d1 d2 d3 d4 d5 d6 d7 d8 d9 d10 d11 d12 l0_13 d14 = some (r1, r2)) ∧ Aside0 (kq ≤ kj50) ∧ Aside0 (wc.heap[gb414]? = some (.cells #[.int .i64 d0, .int .i64 d1, .int .i64 d2, .int .i64 d3, .bool d4, .bool d5, .int .i64 d6, .bool d7, .int .u64 d8, .int .u64 d9, .bool d10, .int .u64 d11, .int .u64 d12, (.slice A0_13 l0_13.length c0_13), .string d14] 28 (0, 0))) ∧ Aside0 (Below w.heap.size w wc))
   case first =>
    have H := HC58.out
    clear HC58
    by_cases c60 : d5 = true
    ·subst c60
     rw [if_pos rfl] at H
     have H' := As H
     clear H
     go_wp2
     go_meet
     case rel => exact ⟨_, (wrap64 (x6_50 + 8192)), kS, H', ⟨by have := HJ1.out; have := HJ50.out; first | omega | exact Nat.le_refl _⟩, ⟨kb BK414.out⟩, ⟨kB1 HB.out GE414.out⟩⟩
    replace c60 := Bool.eq_false_iff.mpr c60
    subst c60
    rw [if_neg (show ¬ (false = true) by decide)] at H
    have H' := As H
    clear H
    go_wp2
    go_meet
    case rel => exact ⟨_, (x6_50), kS, H', ⟨by have := HJ1.out; have := HJ50.out; first | omega | exact Nat.le_refl _⟩, ⟨kb BK414.out⟩, ⟨kB1 HB.out GE414.out⟩⟩
   clear HC58
   try clear hcz59_0
   try clear hfz59_0
   obtain ⟨kq, x6_57, rfl, HA, HJ57, BK414, HB⟩ := hcut
   cases kq with
   | zero => exact absurd HA.out (by simp [intrusionref11_Encode.j2])
   | succ kj57 =>
    have H := HA.out
    clear HA
    simp only [intrusionref11_Encode.j2] at H
    replace H := yS H
    obtain ⟨y423, Ny423, H⟩ := H
    replace H := bS H
    obtain ⟨t426, A61, H⟩ := H
    replace H := iS H
    obtain ⟨c62, H⟩ := H
    have c62b0 := eq_true c62
    have c62b1 := decide_eq_true c62
    try have c62b2 := eq_false (Nat.not_lt.2 c62)
    replace H := bS H
    obtain ⟨t427, A63, H⟩ := H
    replace H := iS H
    obtain ⟨c64, H⟩ := H
    have c64b0 := eq_true c64
    have c64b1 := decide_eq_true c64
    try obtain ⟨c64s0, c64s1, c64s2⟩ := sz_ (a := ((strOfNums y423).size + t426.size) + t427.size) c64
    try have c64b2 := eq_false (Nat.not_lt.2 c64)
    replace H := bS H
    obtain ⟨t428, A65, H⟩ := H
    replace H := iS H
    obtain ⟨c66, H⟩ := H
    have c66b0 := eq_true c66
    have c66b1 := decide_eq_true c66
    try obtain ⟨c66s0, c66s1, c66s2⟩ := sz_ (a := ((strOfNums y423).size + t426.size + t427.size) + t428.size) c66
    try have c66b2 := eq_false (Nat.not_lt.2 c66)
    replace H := yS H
    obtain ⟨y429, Ny429, H⟩ := H
    replace H := iS H
    obtain ⟨c67, H⟩ := H
    have c67b0 := eq_true c67
    have c67b1 := decide_eq_true c67
    try obtain ⟨c67s0, c67s1, c67s2⟩ := sz_ (a := ((strOfNums y423).size + t426.size + t427.size + t428.size) + (strOfNums y429).size) c67
    try have c67b2 := eq_false (Nat.not_lt.2 c67)
    replace H := bS H
    obtain ⟨t432, A68, H⟩ := H
    replace H := bS H
    obtain ⟨t433, A69, H⟩ := H
    replace H := iS H
    obtain ⟨c70, H⟩ := H
    have c70b0 := eq_true c70
    have c70b1 := decide_eq_true c70
    try have c70b2 := eq_false (Nat.not_lt.2 c70)
    replace H := iS H
    obtain ⟨c71, H⟩ := H
    have c71b0 := eq_true c71
    have c71b1 := decide_eq_true c71
    try obtain ⟨c71s0, c71s1, c71s2⟩ := sz_ (a := (t432.size + t433.size) + t422.size) c71
    try have c71b2 := eq_false (Nat.not_lt.2 c71)
    replace H := iS H
    obtain ⟨c72, H⟩ := H
    have c72b0 := eq_true c72
    have c72b1 := decide_eq_true c72
    try obtain ⟨c72s0, c72s1, c72s2⟩ := sz_ (a := ((strOfNums y423).size + t426.size + t427.size + t428.size + (strOfNums y429).size) + 2) c72
    try have c72b2 := eq_false (Nat.not_lt.2 c72)
    replace H := iS H
    obtain ⟨c73, H⟩ := H
    have c73b0 := eq_true c73
    have c73b1 := decide_eq_true c73
    try obtain ⟨c73s0, c73s1, c73s2⟩ := sz_ (a := ((strOfNums y423).size + t426.size + t427.size + t428.size + (strOfNums y429).size + 2) + (t432.size + t433.size + t422.size)) c73
    try have c73b2 := eq_false (Nat.not_lt.2 c73)
    replace H := bS H
    obtain ⟨t434, A74, H⟩ := H
    replace H := bS H
    obtain ⟨t435, A75, H⟩ := H
    replace H := iS H
    obtain ⟨c76, H⟩ := H
    have c76b0 := eq_true c76
    have c76b1 := decide_eq_true c76
    try obtain ⟨c76s0, c76s1, c76s2⟩ := sz_ (a := ((strOfNums y423).size + t426.size + t427.size + t428.size + (strOfNums y429).size) + t435.size) c76
    try have c76b2 := eq_false (Nat.not_lt.2 c76)
    replace H := iS H
    obtain ⟨c77, H⟩ := H
    have c77b0 := eq_true c77
    have c77b1 := decide_eq_true c77
    try obtain ⟨c77s0, c77s1, c77s2⟩ := sz_ (a := ((strOfNums y423).size + t426.size + t427.size + t428.size + (strOfNums y429).size + t435.size) + (t432.size + t433.size + t422.size)) c77
    try have c77b2 := eq_false (Nat.not_lt.2 c77)
    replace H := iS H
    obtain ⟨c78, H⟩ := H
    have c78b0 := eq_true c78
    have c78b1 := decide_eq_true c78
    try obtain ⟨c78s0, c78s1, c78s2⟩ := sz_ (a := ((strOfNums y423).size + t426.size + t427.size + t428.size + (strOfNums y429).size + t435.size + (t432.size + t433.size + t422.size)) + d14.size) c78
    try obtain ⟨c78s3, c78s4, c78s5⟩ := sz_ (a := ((strOfNums y423).size + t426.size + t427.size + t428.size + (strOfNums y429).size + t435.size + t432.size + t433.size + t422.size) + d14.size) c78
    try have c78b2 := eq_false (Nat.not_lt.2 c78)
    simp only [Option.some.injEq, Prod.mk.injEq] at H
    obtain ⟨rfl, rfl⟩ := H
    try go_wp2
    replace BK414 := As (blk_drew BK414.out)
    replace HB := As (below_drew1 HB.out)
    refine start_ (n := 33) (S := fun w' => h15 w' gb414 (.int .i64 d0) (.int .i64 d1) (.int .i64 d2) (.int .i64 d3) (.bool d4) (.bool d5) (.int .i64 d6) (.bool d7) (.int .u64 d8) (.int .u64 d9) (.bool d10) (.int .u64 d11) (.int .u64 d12) (.slice A0_13 l0_13.length c0_13) (.string d14)) (ds := []) #[O, O, O, O, O, O, O, O, O, O, O, O, O, O, O, O, O, O, O, O, O, O, O, O, O, O, O, O, O, O, O, O, O] (by kernel_rfl) rfl rfl (cells_15 BK414.out) (fun hHeld => ?_); refine with_tabW intrusionref11_Encode.tab14 intrusionref11_Encode.bits14 (fun HT_ HW_ => ?_)
    generalize wc.drew = w79 at BK414 HB hHeld ⊢
    refine kP 0 97 #[I, O, O, O, O, O, O, O, O, O, O, O, O, O, O, O, O, O, O, O, O, O, O, O, O, O, O, O, O, O, O, O, O] ?_ (any_of HT_.out (by kernel_rfl))
    refine kP 1 98 #[I, I, O, O, O, O, O, O, O, O, O, O, O, O, O, O, O, O, O, O, O, O, O, O, O, O, O, O, O, O, O, O, O] ?_ (any_of HT_.out (by kernel_rfl))
    refine kP 2 99 #[I, I, I, O, O, O, O, O, O, O, O, O, O, O, O, O, O, O, O, O, O, O, O, O, O, O, O, O, O, O, O, O, O] ?_ (any_of HT_.out (by kernel_rfl))
    refine kP 3 100 #[I, I, I, I, O, O, O, O, O, O, O, O, O, O, O, O, O, O, O, O, O, O, O, O, O, O, O, O, O, O, O, O, O] ?_ (any_of HT_.out (by kernel_rfl))
    refine kP 4 101 #[I, I, I, I, I, O, O, O, O, O, O, O, O, O, O, O, O, O, O, O, O, O, O, O, O, O, O, O, O, O, O, O, O] ?_ (any_of HT_.out (by kernel_rfl))
    refine kP 9 106 #[I, I, I, I, I, O, O, O, O, I, O, O, O, O, O, O, O, O, O, O, O, O, O, O, O, O, O, O, O, O, O, O, O] ?_ (any_of HT_.out (by kernel_rfl))
    refine kP 10 107 #[I, I, I, I, I, O, O, O, O, I, I, O, O, O, O, O, O, O, O, O, O, O, O, O, O, O, O, O, O, O, O, O, O] ?_ (any_of HT_.out (by kernel_rfl))
    refine kP 16 113 #[I, I, I, I, I, O, O, O, O, I, I, O, O, O, O, O, I, O, O, O, O, O, O, O, O, O, O, O, O, O, O, O, O] ?_ (any_of HT_.out (by kernel_rfl))
    refine kP 20 117 #[I, I, I, I, I, O, O, O, O, I, I, O, O, O, O, O, I, O, O, O, I, O, O, O, O, O, O, O, O, O, O, O, O] ?_ (any_of HT_.out (by kernel_rfl))
    refine kP 23 120 #[I, I, I, I, I, O, O, O, O, I, I, O, O, O, O, O, I, O, O, O, I, O, O, I, O, O, O, O, O, O, O, O, O] ?_ (any_of HT_.out (by kernel_rfl))
    refine kP 26 123 #[I, I, I, I, I, O, O, O, O, I, I, O, O, O, O, O, I, O, O, O, I, O, O, I, O, O, I, O, O, O, O, O, O] ?_ (any_of HT_.out (by kernel_rfl))
    refine take_ (i := 5) (N := some 102) (v := ?_) (a' := ?_) #[I, I, I, I, I, I, O, O, O, I, I, O, O, O, O, O, I, O, O, O, I, O, O, I, O, O, I, O, O, O, O, O, O] rfl rfl (take_ofW HT_.out HW_.out (by kernel_rfl)) (fun _ _ _ h => h) (Or.inl ⟨by rfl, ?_⟩) hHeld ?_ ?_
    rotate_left
    ·rintro w' ⟨s0, s1, s2, s3, s4, s5, s6, s7, s8, s9, s10, s11, s12, s13, s14⟩
     go_simp
     with_reducible rfl
    rotate_left
    ·simp only [Act.put, sA, sZ, sS, i64_w, i32_w]
     rfl
    refine kP 6 103 #[I, I, I, I, I, I, I, O, O, I, I, O, O, O, O, O, I, O, O, O, I, O, O, I, O, O, I, O, O, O, O, O, O] ?_ (any_of HT_.out (by kernel_rfl))
    refine take_ (i := 11) (N := some 108) (v := ?_) (a' := ?_) #[I, I, I, I, I, I, I, O, O, I, I, I, O, O, O, O, I, O, O, O, I, O, O, I, O, O, I, O, O, O, O, O, O] rfl rfl (take_ofW HT_.out HW_.out (by kernel_rfl)) (fun _ _ _ h => h) (Or.inl ⟨by rfl, ?_⟩) hHeld ?_ ?_
    rotate_left
    ·rintro w' ⟨s0, s1, s2, s3, s4, s5, s6, s7, s8, s9, s10, s11, s12, s13, s14⟩
     go_simp
     with_reducible rfl
    rotate_left
    ·simp only [Act.put, sA, sZ, sS, i64_w, i32_w]
     rfl
    refine kP 12 109 #[I, I, I, I, I, I, I, O, O, I, I, I, I, O, O, O, I, O, O, O, I, O, O, I, O, O, I, O, O, O, O, O, O] ?_ (any_of HT_.out (by kernel_rfl))
    refine kP 13 110 #[I, I, I, I, I, I, I, O, O, I, I, I, I, I, O, O, I, O, O, O, I, O, O, I, O, O, I, O, O, O, O, O, O] ?_ (any_of HT_.out (by kernel_rfl))
    refine take_ (i := 17) (N := some 114) (v := ?_) (a' := ?_) #[I, I, I, I, I, I, I, O, O, I, I, I, I, I, O, O, I, I, O, O, I, O, O, I, O, O, I, O, O, O, O, O, O] rfl rfl (take_ofW HT_.out HW_.out (by kernel_rfl)) (fun _ _ _ h => h) (Or.inl ⟨by rfl, ?_⟩) hHeld ?_ ?_
    rotate_left
    ·rintro w' ⟨s0, s1, s2, s3, s4, s5, s6, s7, s8, s9, s10, s11, s12, s13, s14⟩
     go_simp
     with_reducible rfl
    rotate_left
    ·simp only [Act.put, sA, sZ, sS, i64_w, i32_w]
     rfl
    refine take_ (i := 24) (N := some 121) (v := ?_) (a' := ?_) #[I, I, I, I, I, I, I, O, O, I, I, I, I, I, O, O, I, I, O, O, I, O, O, I, I, O, I, O, O, O, O, O, O] rfl rfl (take_ofW HT_.out HW_.out (by kernel_rfl)) (fun _ _ _ h => h) (Or.inl ⟨by rfl, ?_⟩) hHeld ?_ ?_
    rotate_left
    ·rintro w' ⟨s0, s1, s2, s3, s4, s5, s6, s7, s8, s9, s10, s11, s12, s13, s14⟩
     go_simp
     with_reducible rfl
    rotate_left
    ·simp only [Act.put, sA, sZ, sS, i64_w, i32_w]
     rfl
    refine kP 25 122 #[I, I, I, I, I, I, I, O, O, I, I, I, I, I, O, O, I, I, O, O, I, O, O, I, I, I, I, O, O, O, O, O, O] ?_ (any_of HT_.out (by kernel_rfl))
    refine take_ (i := 27) (N := some 124) (v := ?_) (a' := ?_) #[I, I, I, I, I, I, I, O, O, I, I, I, I, I, O, O, I, I, O, O, I, O, O, I, I, I, I, I, O, O, O, O, O] rfl rfl (take_ofW HT_.out HW_.out (by kernel_rfl)) (fun _ _ _ h => h) (Or.inl ⟨by rfl, ?_⟩) hHeld ?_ ?_
    rotate_left
    ·rintro w' ⟨s0, s1, s2, s3, s4, s5, s6, s7, s8, s9, s10, s11, s12, s13, s14⟩
     go_simp
     with_reducible rfl
    rotate_left
    ·simp only [Act.put, sA, sZ, sS, i64_w, i32_w]
     rfl
    refine kP 28 125 #[I, I, I, I, I, I, I, O, O, I, I, I, I, I, O, O, I, I, O, O, I, O, O, I, I, I, I, I, I, O, O, O, O] ?_ (any_of HT_.out (by kernel_rfl))
    refine join_ (σ := Value × Value) 2 #[I, I, I, I, I, I, I, I, I, I, I, I, I, I, I, I, I, I, I, I, I, I, I, I, I, I, I, I, I, I, I, O, O] (fun s_ => [(104, s_.1), (105, .string (strOfNums y423)), (111, .string t426), (115, .string t427), (118, .string t428), (126, s_.2), (127, .string (strOfNums y429)), (112, .string ((strOfNums y423) ++ t426)), (116, .string (((strOfNums y423) ++ t426) ++ t427)), (119, .string ((((strOfNums y423) ++ t426) ++ t427) ++ t428))]) (fun s_ w' => (h15 w' gb414 (.int .i64 d0) (.int .i64 d1) (.int .i64 d2) (.int .i64 d3) (.bool d4) (.bool d5) (.int .i64 d6) (.bool d7) (.int .u64 d8) (.int .u64 d9) (.bool d10) (.int .u64 d11) (.int .u64 d12) (.slice A0_13 l0_13.length c0_13) (.string d14)) ∧ (Kd.R (Kd.int .u8) 5 w' w.heap.size (fun k_ => some k_ ≠ (s_.2 : Value).ownBlock) s_.1 y423) ∧ (Kd.R (Kd.int .u8) 5 w' w.heap.size (fun k_ => some k_ ≠ (s_.1 : Value).ownBlock) s_.2 y429) ∧ (w'.heap[gb414]? = some (.cells #[.int .i64 d0, .int .i64 d1, .int .i64 d2, .int .i64 d3, .bool d4, .bool d5, .int .i64 d6, .bool d7, .int .u64 d8, .int .u64 d9, .bool d10, .int .u64 d11, .int .u64 d12, .slice A0_13 l0_13.length c0_13, .string d14] 28 (0, 0))) ∧ (Below w.heap.size w w')) ?_ ?_
    rotate_left
    ·intro hJ7_8_14_18_21_29_30
     refine join_ (σ := Value × Value) 3 #[I, I, I, I, I, I, I, I, I, I, I, I, I, I, I, I, I, I, I, I, I, I, I, I, I, I, I, I, I, I, O, O, O] (fun s_ => [(104, s_.1), (105, .string (strOfNums y423)), (111, .string t426), (115, .string t427), (118, .string t428), (126, s_.2), (112, .string ((strOfNums y423) ++ t426)), (116, .string (((strOfNums y423) ++ t426) ++ t427)), (119, .string ((((strOfNums y423) ++ t426) ++ t427) ++ t428))]) (fun s_ w' => (h15 w' gb414 (.int .i64 d0) (.int .i64 d1) (.int .i64 d2) (.int .i64 d3) (.bool d4) (.bool d5) (.int .i64 d6) (.bool d7) (.int .u64 d8) (.int .u64 d9) (.bool d10) (.int .u64 d11) (.int .u64 d12) (.slice A0_13 l0_13.length c0_13) (.string d14)) ∧ (Kd.R (Kd.int .u8) 5 w' w.heap.size (fun k_ => some k_ ≠ (s_.2 : Value).ownBlock) s_.1 y423) ∧ (Kd.R (Kd.int .u8) 5 w' w.heap.size (fun k_ => some k_ ≠ (s_.1 : Value).ownBlock) s_.2 y429) ∧ (w'.heap[gb414]? = some (.cells #[.int .i64 d0, .int .i64 d1, .int .i64 d2, .int .i64 d3, .bool d4, .bool d5, .int .i64 d6, .bool d7, .int .u64 d8, .int .u64 d9, .bool d10, .int .u64 d11, .int .u64 d12, .slice A0_13 l0_13.length c0_13, .string d14] 28 (0, 0))) ∧ (Below w.heap.size w w')) ?_ ?_
     rotate_left
     ·intro hJ7_8_14_18_21_29
      refine join_ (σ := Value × Value) 4 #[I, I, I, I, I, I, I, I, I, I, I, I, I, I, I, I, I, I, I, I, I, O, O, I, I, I, I, I, I, I, I, O, O] (fun s_ => [(104, s_.1), (105, .string (strOfNums y423)), (111, .string t426), (115, .string t427), (126, s_.2), (127, .string (strOfNums y429)), (112, .string ((strOfNums y423) ++ t426)), (116, .string (((strOfNums y423) ++ t426) ++ t427))]) (fun s_ w' => (h15 w' gb414 (.int .i64 d0) (.int .i64 d1) (.int .i64 d2) (.int .i64 d3) (.bool d4) (.bool d5) (.int .i64 d6) (.bool d7) (.int .u64 d8) (.int .u64 d9) (.bool d10) (.int .u64 d11) (.int .u64 d12) (.slice A0_13 l0_13.length c0_13) (.string d14)) ∧ (Kd.R (Kd.int .u8) 5 w' w.heap.size (fun k_ => some k_ ≠ (s_.2 : Value).ownBlock) s_.1 y423) ∧ (Kd.R (Kd.int .u8) 5 w' w.heap.size (fun k_ => some k_ ≠ (s_.1 : Value).ownBlock) s_.2 y429) ∧ (w'.heap[gb414]? = some (.cells #[.int .i64 d0, .int .i64 d1, .int .i64 d2, .int .i64 d3, .bool d4, .bool d5, .int .i64 d6, .bool d7, .int .u64 d8, .int .u64 d9, .bool d10, .int .u64 d11, .int .u64 d12, .slice A0_13 l0_13.length c0_13, .string d14] 28 (0, 0))) ∧ (Below w.heap.size w w')) ?_ ?_
      rotate_left
      ·intro hJ7_8_14_18_29_30
       refine join_ (σ := Value × Value) 6 #[I, I, I, I, I, I, I, I, O, I, I, I, I, I, I, O, I, I, I, O, I, I, O, I, I, I, I, I, I, I, I, O, O] (fun s_ => [(104, s_.1), (111, .string t426), (115, .string t427), (118, .string t428), (126, s_.2), (127, .string (strOfNums y429))]) (fun s_ w' => (h15 w' gb414 (.int .i64 d0) (.int .i64 d1) (.int .i64 d2) (.int .i64 d3) (.bool d4) (.bool d5) (.int .i64 d6) (.bool d7) (.int .u64 d8) (.int .u64 d9) (.bool d10) (.int .u64 d11) (.int .u64 d12) (.slice A0_13 l0_13.length c0_13) (.string d14)) ∧ (Kd.R (Kd.int .u8) 5 w' w.heap.size (fun k_ => some k_ ≠ (s_.2 : Value).ownBlock) s_.1 y423) ∧ (Kd.R (Kd.int .u8) 5 w' w.heap.size (fun k_ => some k_ ≠ (s_.1 : Value).ownBlock) s_.2 y429) ∧ (w'.heap[gb414]? = some (.cells #[.int .i64 d0, .int .i64 d1, .int .i64 d2, .int .i64 d3, .bool d4, .bool d5, .int .i64 d6, .bool d7, .int .u64 d8, .int .u64 d9, .bool d10, .int .u64 d11, .int .u64 d12, .slice A0_13 l0_13.length c0_13, .string d14] 28 (0, 0))) ∧ (Below w.heap.size w w')) ?_ ?_
       rotate_left
       ·intro hJ7_14_18_21_29_30
        refine join_ (σ := Value) 4 #[I, I, I, I, I, I, I, I, I, I, I, I, I, I, I, I, I, I, I, I, I, I, I, I, I, I, I, I, I, O, O, O, O] (fun s_ => [(104, s_), (105, .string (strOfNums y423)), (111, .string t426), (115, .string t427), (118, .string t428), (112, .string ((strOfNums y423) ++ t426)), (116, .string (((strOfNums y423) ++ t426) ++ t427)), (119, .string ((((strOfNums y423) ++ t426) ++ t427) ++ t428))]) (fun s_ w' => (h15 w' gb414 (.int .i64 d0) (.int .i64 d1) (.int .i64 d2) (.int .i64 d3) (.bool d4) (.bool d5) (.int .i64 d6) (.bool d7) (.int .u64 d8) (.int .u64 d9) (.bool d10) (.int .u64 d11) (.int .u64 d12) (.slice A0_13 l0_13.length c0_13) (.string d14)) ∧ (Kd.R (Kd.int .u8) 5 w' w.heap.size (fun _ => True) s_ y423) ∧ (w'.heap[gb414]? = some (.cells #[.int .i64 d0, .int .i64 d1, .int .i64 d2, .int .i64 d3, .bool d4, .bool d5, .int .i64 d6, .bool d7, .int .u64 d8, .int .u64 d9, .bool d10, .int .u64 d11, .int .u64 d12, .slice A0_13 l0_13.length c0_13, .string d14] 28 (0, 0))) ∧ (Below w.heap.size w w')) ?_ ?_
        rotate_left
        ·intro hJ7_8_14_18_21
         refine join_ (σ := Value × Value) 5 #[I, I, I, I, I, I, I, I, I, I, I, I, I, I, I, I, I, I, I, I, I, O, O, I, I, I, I, I, I, I, O, O, O] (fun s_ => [(104, s_.1), (105, .string (strOfNums y423)), (111, .string t426), (115, .string t427), (126, s_.2), (112, .string ((strOfNums y423) ++ t426)), (116, .string (((strOfNums y423) ++ t426) ++ t427))]) (fun s_ w' => (h15 w' gb414 (.int .i64 d0) (.int .i64 d1) (.int .i64 d2) (.int .i64 d3) (.bool d4) (.bool d5) (.int .i64 d6) (.bool d7) (.int .u64 d8) (.int .u64 d9) (.bool d10) (.int .u64 d11) (.int .u64 d12) (.slice A0_13 l0_13.length c0_13) (.string d14)) ∧ (Kd.R (Kd.int .u8) 5 w' w.heap.size (fun k_ => some k_ ≠ (s_.2 : Value).ownBlock) s_.1 y423) ∧ (Kd.R (Kd.int .u8) 5 w' w.heap.size (fun k_ => some k_ ≠ (s_.1 : Value).ownBlock) s_.2 y429) ∧ (w'.heap[gb414]? = some (.cells #[.int .i64 d0, .int .i64 d1, .int .i64 d2, .int .i64 d3, .bool d4, .bool d5, .int .i64 d6, .bool d7, .int .u64 d8, .int .u64 d9, .bool d10, .int .u64 d11, .int .u64 d12, .slice A0_13 l0_13.length c0_13, .string d14] 28 (0, 0))) ∧ (Below w.heap.size w w')) ?_ ?_
         rotate_left
         ·intro hJ7_8_14_18_29
          refine join_ (σ := Value × Value) 6 #[I, I, I, I, I, I, I, I, I, I, I, I, I, I, I, I, I, I, O, O, I, O, O, I, I, I, I, I, I, I, I, O, O] (fun s_ => [(104, s_.1), (105, .string (strOfNums y423)), (111, .string t426), (126, s_.2), (127, .string (strOfNums y429)), (112, .string ((strOfNums y423) ++ t426))]) (fun s_ w' => (h15 w' gb414 (.int .i64 d0) (.int .i64 d1) (.int .i64 d2) (.int .i64 d3) (.bool d4) (.bool d5) (.int .i64 d6) (.bool d7) (.int .u64 d8) (.int .u64 d9) (.bool d10) (.int .u64 d11) (.int .u64 d12) (.slice A0_13 l0_13.length c0_13) (.string d14)) ∧ (Kd.R (Kd.int .u8) 5 w' w.heap.size (fun k_ => some k_ ≠ (s_.2 : Value).ownBlock) s_.1 y423) ∧ (Kd.R (Kd.int .u8) 5 w' w.heap.size (fun k_ => some k_ ≠ (s_.1 : Value).ownBlock) s_.2 y429) ∧ (w'.heap[gb414]? = some (.cells #[.int .i64 d0, .int .i64 d1, .int .i64 d2, .int .i64 d3, .bool d4, .bool d5, .int .i64 d6, .bool d7, .int .u64 d8, .int .u64 d9, .bool d10, .int .u64 d11, .int .u64 d12, .slice A0_13 l0_13.length c0_13, .string d14] 28 (0, 0))) ∧ (Below w.heap.size w w')) ?_ ?_
          rotate_left
          ·intro hJ7_8_14_29_30
           refine join_ (σ := Value × Value) 7 #[I, I, I, I, I, I, I, I, O, I, I, I, I, I, I, O, I, I, I, O, I, I, O, I, I, I, I, I, I, I, O, O, O] (fun s_ => [(104, s_.1), (111, .string t426), (115, .string t427), (118, .string t428), (126, s_.2)]) (fun s_ w' => (h15 w' gb414 (.int .i64 d0) (.int .i64 d1) (.int .i64 d2) (.int .i64 d3) (.bool d4) (.bool d5) (.int .i64 d6) (.bool d7) (.int .u64 d8) (.int .u64 d9) (.bool d10) (.int .u64 d11) (.int .u64 d12) (.slice A0_13 l0_13.length c0_13) (.string d14)) ∧ (Kd.R (Kd.int .u8) 5 w' w.heap.size (fun k_ => some k_ ≠ (s_.2 : Value).ownBlock) s_.1 y423) ∧ (Kd.R (Kd.int .u8) 5 w' w.heap.size (fun k_ => some k_ ≠ (s_.1 : Value).ownBlock) s_.2 y429) ∧ (w'.heap[gb414]? = some (.cells #[.int .i64 d0, .int .i64 d1, .int .i64 d2, .int .i64 d3, .bool d4, .bool d5, .int .i64 d6, .bool d7, .int .u64 d8, .int .u64 d9, .bool d10, .int .u64 d11, .int .u64 d12, .slice A0_13 l0_13.length c0_13, .string d14] 28 (0, 0))) ∧ (Below w.heap.size w w')) ?_ ?_
           rotate_left
           ·intro hJ7_14_18_21_29
            refine join_ (σ := Value × Value) 7 #[I, I, I, I, I, I, I, I, O, I, I, I, I, I, I, O, I, I, I, O, I, O, O, I, I, I, I, I, I, I, I, O, O] (fun s_ => [(104, s_.1), (111, .string t426), (115, .string t427), (126, s_.2), (127, .string (strOfNums y429))]) (fun s_ w' => (h15 w' gb414 (.int .i64 d0) (.int .i64 d1) (.int .i64 d2) (.int .i64 d3) (.bool d4) (.bool d5) (.int .i64 d6) (.bool d7) (.int .u64 d8) (.int .u64 d9) (.bool d10) (.int .u64 d11) (.int .u64 d12) (.slice A0_13 l0_13.length c0_13) (.string d14)) ∧ (Kd.R (Kd.int .u8) 5 w' w.heap.size (fun k_ => some k_ ≠ (s_.2 : Value).ownBlock) s_.1 y423) ∧ (Kd.R (Kd.int .u8) 5 w' w.heap.size (fun k_ => some k_ ≠ (s_.1 : Value).ownBlock) s_.2 y429) ∧ (w'.heap[gb414]? = some (.cells #[.int .i64 d0, .int .i64 d1, .int .i64 d2, .int .i64 d3, .bool d4, .bool d5, .int .i64 d6, .bool d7, .int .u64 d8, .int .u64 d9, .bool d10, .int .u64 d11, .int .u64 d12, .slice A0_13 l0_13.length c0_13, .string d14] 28 (0, 0))) ∧ (Below w.heap.size w w')) ?_ ?_
            rotate_left
            ·intro hJ7_14_18_29_30
             refine join_ (σ := Value) 7 #[I, I, I, I, I, I, I, O, O, I, I, I, I, I, I, O, I, I, I, O, I, I, O, I, I, I, I, I, I, I, I, O, O] (fun s_ => [(111, .string t426), (115, .string t427), (118, .string t428), (126, s_), (127, .string (strOfNums y429))]) (fun s_ w' => (h15 w' gb414 (.int .i64 d0) (.int .i64 d1) (.int .i64 d2) (.int .i64 d3) (.bool d4) (.bool d5) (.int .i64 d6) (.bool d7) (.int .u64 d8) (.int .u64 d9) (.bool d10) (.int .u64 d11) (.int .u64 d12) (.slice A0_13 l0_13.length c0_13) (.string d14)) ∧ (Kd.R (Kd.int .u8) 5 w' w.heap.size (fun _ => True) s_ y429) ∧ (w'.heap[gb414]? = some (.cells #[.int .i64 d0, .int .i64 d1, .int .i64 d2, .int .i64 d3, .bool d4, .bool d5, .int .i64 d6, .bool d7, .int .u64 d8, .int .u64 d9, .bool d10, .int .u64 d11, .int .u64 d12, .slice A0_13 l0_13.length c0_13, .string d14] 28 (0, 0))) ∧ (Below w.heap.size w w')) ?_ ?_
             rotate_left
             ·intro hJ14_18_21_29_30
              refine join_ (σ := Value) 6 #[I, I, I, I, I, I, I, I, I, I, I, I, I, I, I, I, I, I, I, I, I, O, O, I, I, I, I, I, I, O, O, O, O] (fun s_ => [(104, s_), (105, .string (strOfNums y423)), (111, .string t426), (115, .string t427), (112, .string ((strOfNums y423) ++ t426)), (116, .string (((strOfNums y423) ++ t426) ++ t427))]) (fun s_ w' => (h15 w' gb414 (.int .i64 d0) (.int .i64 d1) (.int .i64 d2) (.int .i64 d3) (.bool d4) (.bool d5) (.int .i64 d6) (.bool d7) (.int .u64 d8) (.int .u64 d9) (.bool d10) (.int .u64 d11) (.int .u64 d12) (.slice A0_13 l0_13.length c0_13) (.string d14)) ∧ (Kd.R (Kd.int .u8) 5 w' w.heap.size (fun _ => True) s_ y423) ∧ (w'.heap[gb414]? = some (.cells #[.int .i64 d0, .int .i64 d1, .int .i64 d2, .int .i64 d3, .bool d4, .bool d5, .int .i64 d6, .bool d7, .int .u64 d8, .int .u64 d9, .bool d10, .int .u64 d11, .int .u64 d12, .slice A0_13 l0_13.length c0_13, .string d14] 28 (0, 0))) ∧ (Below w.heap.size w w')) ?_ ?_
              rotate_left
              ·intro hJ7_8_14_18
               refine join_ (σ := Value × Value) 7 #[I, I, I, I, I, I, I, I, I, I, I, I, I, I, I, I, I, I, O, O, I, O, O, I, I, I, I, I, I, I, O, O, O] (fun s_ => [(104, s_.1), (105, .string (strOfNums y423)), (111, .string t426), (126, s_.2), (112, .string ((strOfNums y423) ++ t426))]) (fun s_ w' => (h15 w' gb414 (.int .i64 d0) (.int .i64 d1) (.int .i64 d2) (.int .i64 d3) (.bool d4) (.bool d5) (.int .i64 d6) (.bool d7) (.int .u64 d8) (.int .u64 d9) (.bool d10) (.int .u64 d11) (.int .u64 d12) (.slice A0_13 l0_13.length c0_13) (.string d14)) ∧ (Kd.R (Kd.int .u8) 5 w' w.heap.size (fun k_ => some k_ ≠ (s_.2 : Value).ownBlock) s_.1 y423) ∧ (Kd.R (Kd.int .u8) 5 w' w.heap.size (fun k_ => some k_ ≠ (s_.1 : Value).ownBlock) s_.2 y429) ∧ (w'.heap[gb414]? = some (.cells #[.int .i64 d0, .int .i64 d1, .int .i64 d2, .int .i64 d3, .bool d4, .bool d5, .int .i64 d6, .bool d7, .int .u64 d8, .int .u64 d9, .bool d10, .int .u64 d11, .int .u64 d12, .slice A0_13 l0_13.length c0_13, .string d14] 28 (0, 0))) ∧ (Below w.heap.size w w')) ?_ ?_
               rotate_left
               ·intro hJ7_8_14_29
                refine join_ (σ := Value × Value) 8 #[I, I, I, I, I, I, I, I, I, I, I, I, I, I, O, O, I, I, O, O, I, O, O, I, I, I, I, I, I, I, I, O, O] (fun s_ => [(104, s_.1), (105, .string (strOfNums y423)), (126, s_.2), (127, .string (strOfNums y429))]) (fun s_ w' => (h15 w' gb414 (.int .i64 d0) (.int .i64 d1) (.int .i64 d2) (.int .i64 d3) (.bool d4) (.bool d5) (.int .i64 d6) (.bool d7) (.int .u64 d8) (.int .u64 d9) (.bool d10) (.int .u64 d11) (.int .u64 d12) (.slice A0_13 l0_13.length c0_13) (.string d14)) ∧ (Kd.R (Kd.int .u8) 5 w' w.heap.size (fun k_ => some k_ ≠ (s_.2 : Value).ownBlock) s_.1 y423) ∧ (Kd.R (Kd.int .u8) 5 w' w.heap.size (fun k_ => some k_ ≠ (s_.1 : Value).ownBlock) s_.2 y429) ∧ (w'.heap[gb414]? = some (.cells #[.int .i64 d0, .int .i64 d1, .int .i64 d2, .int .i64 d3, .bool d4, .bool d5, .int .i64 d6, .bool d7, .int .u64 d8, .int .u64 d9, .bool d10, .int .u64 d11, .int .u64 d12, .slice A0_13 l0_13.length c0_13, .string d14] 28 (0, 0))) ∧ (Below w.heap.size w w')) ?_ ?_
                rotate_left
                ·intro hJ7_8_29_30
                 refine join_ (σ := Value) 8 #[I, I, I, I, I, I, I, I, O, I, I, I, I, I, I, O, I, I, I, O, I, I, O, I, I, I, I, I, I, O, O, O, O] (fun s_ => [(104, s_), (111, .string t426), (115, .string t427), (118, .string t428)]) (fun s_ w' => (h15 w' gb414 (.int .i64 d0) (.int .i64 d1) (.int .i64 d2) (.int .i64 d3) (.bool d4) (.bool d5) (.int .i64 d6) (.bool d7) (.int .u64 d8) (.int .u64 d9) (.bool d10) (.int .u64 d11) (.int .u64 d12) (.slice A0_13 l0_13.length c0_13) (.string d14)) ∧ (Kd.R (Kd.int .u8) 5 w' w.heap.size (fun _ => True) s_ y423) ∧ (w'.heap[gb414]? = some (.cells #[.int .i64 d0, .int .i64 d1, .int .i64 d2, .int .i64 d3, .bool d4, .bool d5, .int .i64 d6, .bool d7, .int .u64 d8, .int .u64 d9, .bool d10, .int .u64 d11, .int .u64 d12, .slice A0_13 l0_13.length c0_13, .string d14] 28 (0, 0))) ∧ (Below w.heap.size w w')) ?_ ?_
                 rotate_left
                 ·intro hJ7_14_18_21
                  refine join_ (σ := Value × Value) 8 #[I, I, I, I, I, I, I, I, O, I, I, I, I, I, I, O, I, I, I, O, I, O, O, I, I, I, I, I, I, I, O, O, O] (fun s_ => [(104, s_.1), (111, .string t426), (115, .string t427), (126, s_.2)]) (fun s_ w' => (h15 w' gb414 (.int .i64 d0) (.int .i64 d1) (.int .i64 d2) (.int .i64 d3) (.bool d4) (.bool d5) (.int .i64 d6) (.bool d7) (.int .u64 d8) (.int .u64 d9) (.bool d10) (.int .u64 d11) (.int .u64 d12) (.slice A0_13 l0_13.length c0_13) (.string d14)) ∧ (Kd.R (Kd.int .u8) 5 w' w.heap.size (fun k_ => some k_ ≠ (s_.2 : Value).ownBlock) s_.1 y423) ∧ (Kd.R (Kd.int .u8) 5 w' w.heap.size (fun k_ => some k_ ≠ (s_.1 : Value).ownBlock) s_.2 y429) ∧ (w'.heap[gb414]? = some (.cells #[.int .i64 d0, .int .i64 d1, .int .i64 d2, .int .i64 d3, .bool d4, .bool d5, .int .i64 d6, .bool d7, .int .u64 d8, .int .u64 d9, .bool d10, .int .u64 d11, .int .u64 d12, .slice A0_13 l0_13.length c0_13, .string d14] 28 (0, 0))) ∧ (Below w.heap.size w w')) ?_ ?_
                  rotate_left
                  ·intro hJ7_14_18_29
                   refine join_ (σ := Value × Value) 8 #[I, I, I, I, I, I, I, I, O, I, I, I, I, I, I, O, I, I, O, O, I, O, O, I, I, I, I, I, I, I, I, O, O] (fun s_ => [(104, s_.1), (111, .string t426), (126, s_.2), (127, .string (strOfNums y429))]) (fun s_ w' => (h15 w' gb414 (.int .i64 d0) (.int .i64 d1) (.int .i64 d2) (.int .i64 d3) (.bool d4) (.bool d5) (.int .i64 d6) (.bool d7) (.int .u64 d8) (.int .u64 d9) (.bool d10) (.int .u64 d11) (.int .u64 d12) (.slice A0_13 l0_13.length c0_13) (.string d14)) ∧ (Kd.R (Kd.int .u8) 5 w' w.heap.size (fun k_ => some k_ ≠ (s_.2 : Value).ownBlock) s_.1 y423) ∧ (Kd.R (Kd.int .u8) 5 w' w.heap.size (fun k_ => some k_ ≠ (s_.1 : Value).ownBlock) s_.2 y429) ∧ (w'.heap[gb414]? = some (.cells #[.int .i64 d0, .int .i64 d1, .int .i64 d2, .int .i64 d3, .bool d4, .bool d5, .int .i64 d6, .bool d7, .int .u64 d8, .int .u64 d9, .bool d10, .int .u64 d11, .int .u64 d12, .slice A0_13 l0_13.length c0_13, .string d14] 28 (0, 0))) ∧ (Below w.heap.size w w')) ?_ ?_
                   rotate_left
                   ·intro hJ7_14_29_30
                    refine join_ (σ := Value) 8 #[I, I, I, I, I, I, I, O, O, I, I, I, I, I, I, O, I, I, I, O, I, I, O, I, I, I, I, I, I, I, O, O, O] (fun s_ => [(111, .string t426), (115, .string t427), (118, .string t428), (126, s_)]) (fun s_ w' => (h15 w' gb414 (.int .i64 d0) (.int .i64 d1) (.int .i64 d2) (.int .i64 d3) (.bool d4) (.bool d5) (.int .i64 d6) (.bool d7) (.int .u64 d8) (.int .u64 d9) (.bool d10) (.int .u64 d11) (.int .u64 d12) (.slice A0_13 l0_13.length c0_13) (.string d14)) ∧ (Kd.R (Kd.int .u8) 5 w' w.heap.size (fun _ => True) s_ y429) ∧ (w'.heap[gb414]? = some (.cells #[.int .i64 d0, .int .i64 d1, .int .i64 d2, .int .i64 d3, .bool d4, .bool d5, .int .i64 d6, .bool d7, .int .u64 d8, .int .u64 d9, .bool d10, .int .u64 d11, .int .u64 d12, .slice A0_13 l0_13.length c0_13, .string d14] 28 (0, 0))) ∧ (Below w.heap.size w w')) ?_ ?_
                    rotate_left
                    ·intro hJ14_18_21_29
                     refine join_ (σ := Value) 8 #[I, I, I, I, I, I, I, O, O, I, I, I, I, I, I, O, I, I, I, O, I, O, O, I, I, I, I, I, I, I, I, O, O] (fun s_ => [(111, .string t426), (115, .string t427), (126, s_), (127, .string (strOfNums y429))]) (fun s_ w' => (h15 w' gb414 (.int .i64 d0) (.int .i64 d1) (.int .i64 d2) (.int .i64 d3) (.bool d4) (.bool d5) (.int .i64 d6) (.bool d7) (.int .u64 d8) (.int .u64 d9) (.bool d10) (.int .u64 d11) (.int .u64 d12) (.slice A0_13 l0_13.length c0_13) (.string d14)) ∧ (Kd.R (Kd.int .u8) 5 w' w.heap.size (fun _ => True) s_ y429) ∧ (w'.heap[gb414]? = some (.cells #[.int .i64 d0, .int .i64 d1, .int .i64 d2, .int .i64 d3, .bool d4, .bool d5, .int .i64 d6, .bool d7, .int .u64 d8, .int .u64 d9, .bool d10, .int .u64 d11, .int .u64 d12, .slice A0_13 l0_13.length c0_13, .string d14] 28 (0, 0))) ∧ (Below w.heap.size w w')) ?_ ?_
                     rotate_left
                     ·intro hJ14_18_29_30
                      refine join_ (σ := Value) 8 #[I, I, I, I, I, I, I, I, I, I, I, I, I, I, I, I, I, I, O, O, I, O, O, I, I, I, I, I, I, O, O, O, O] (fun s_ => [(104, s_), (105, .string (strOfNums y423)), (111, .string t426), (112, .string ((strOfNums y423) ++ t426))]) (fun s_ w' => (h15 w' gb414 (.int .i64 d0) (.int .i64 d1) (.int .i64 d2) (.int .i64 d3) (.bool d4) (.bool d5) (.int .i64 d6) (.bool d7) (.int .u64 d8) (.int .u64 d9) (.bool d10) (.int .u64 d11) (.int .u64 d12) (.slice A0_13 l0_13.length c0_13) (.string d14)) ∧ (Kd.R (Kd.int .u8) 5 w' w.heap.size (fun _ => True) s_ y423) ∧ (w'.heap[gb414]? = some (.cells #[.int .i64 d0, .int .i64 d1, .int .i64 d2, .int .i64 d3, .bool d4, .bool d5, .int .i64 d6, .bool d7, .int .u64 d8, .int .u64 d9, .bool d10, .int .u64 d11, .int .u64 d12, .slice A0_13 l0_13.length c0_13, .string d14] 28 (0, 0))) ∧ (Below w.heap.size w w')) ?_ ?_
                      rotate_left
                      ·intro hJ7_8_14
                       refine join_ (σ := Value × Value) 9 #[I, I, I, I, I, I, I, I, I, I, I, I, I, I, O, O, I, I, O, O, I, O, O, I, I, I, I, I, I, I, O, O, O] (fun s_ => [(104, s_.1), (105, .string (strOfNums y423)), (126, s_.2)]) (fun s_ w' => (h15 w' gb414 (.int .i64 d0) (.int .i64 d1) (.int .i64 d2) (.int .i64 d3) (.bool d4) (.bool d5) (.int .i64 d6) (.bool d7) (.int .u64 d8) (.int .u64 d9) (.bool d10) (.int .u64 d11) (.int .u64 d12) (.slice A0_13 l0_13.length c0_13) (.string d14)) ∧ (Kd.R (Kd.int .u8) 5 w' w.heap.size (fun k_ => some k_ ≠ (s_.2 : Value).ownBlock) s_.1 y423) ∧ (Kd.R (Kd.int .u8) 5 w' w.heap.size (fun k_ => some k_ ≠ (s_.1 : Value).ownBlock) s_.2 y429) ∧ (w'.heap[gb414]? = some (.cells #[.int .i64 d0, .int .i64 d1, .int .i64 d2, .int .i64 d3, .bool d4, .bool d5, .int .i64 d6, .bool d7, .int .u64 d8, .int .u64 d9, .bool d10, .int .u64 d11, .int .u64 d12, .slice A0_13 l0_13.length c0_13, .string d14] 28 (0, 0))) ∧ (Below w.heap.size w w')) ?_ ?_
                       rotate_left
                       ·intro hJ7_8_29
                        refine join_ (σ := Value) 9 #[I, I, I, I, I, I, I, I, O, I, I, I, I, I, I, O, I, I, I, O, I, O, O, I, I, I, I, I, I, O, O, O, O] (fun s_ => [(104, s_), (111, .string t426), (115, .string t427)]) (fun s_ w' => (h15 w' gb414 (.int .i64 d0) (.int .i64 d1) (.int .i64 d2) (.int .i64 d3) (.bool d4) (.bool d5) (.int .i64 d6) (.bool d7) (.int .u64 d8) (.int .u64 d9) (.bool d10) (.int .u64 d11) (.int .u64 d12) (.slice A0_13 l0_13.length c0_13) (.string d14)) ∧ (Kd.R (Kd.int .u8) 5 w' w.heap.size (fun _ => True) s_ y423) ∧ (w'.heap[gb414]? = some (.cells #[.int .i64 d0, .int .i64 d1, .int .i64 d2, .int .i64 d3, .bool d4, .bool d5, .int .i64 d6, .bool d7, .int .u64 d8, .int .u64 d9, .bool d10, .int .u64 d11, .int .u64 d12, .slice A0_13 l0_13.length c0_13, .string d14] 28 (0, 0))) ∧ (Below w.heap.size w w')) ?_ ?_
                        rotate_left
                        ·intro hJ7_14_18
                         refine join_ (σ := Value × Value) 9 #[I, I, I, I, I, I, I, I, O, I, I, I, I, I, I, O, I, I, O, O, I, O, O, I, I, I, I, I, I, I, O, O, O] (fun s_ => [(104, s_.1), (111, .string t426), (126, s_.2)]) (fun s_ w' => (h15 w' gb414 (.int .i64 d0) (.int .i64 d1) (.int .i64 d2) (.int .i64 d3) (.bool d4) (.bool d5) (.int .i64 d6) (.bool d7) (.int .u64 d8) (.int .u64 d9) (.bool d10) (.int .u64 d11) (.int .u64 d12) (.slice A0_13 l0_13.length c0_13) (.string d14)) ∧ (Kd.R (Kd.int .u8) 5 w' w.heap.size (fun k_ => some k_ ≠ (s_.2 : Value).ownBlock) s_.1 y423) ∧ (Kd.R (Kd.int .u8) 5 w' w.heap.size (fun k_ => some k_ ≠ (s_.1 : Value).ownBlock) s_.2 y429) ∧ (w'.heap[gb414]? = some (.cells #[.int .i64 d0, .int .i64 d1, .int .i64 d2, .int .i64 d3, .bool d4, .bool d5, .int .i64 d6, .bool d7, .int .u64 d8, .int .u64 d9, .bool d10, .int .u64 d11, .int .u64 d12, .slice A0_13 l0_13.length c0_13, .string d14] 28 (0, 0))) ∧ (Below w.heap.size w w')) ?_ ?_
                         rotate_left
                         ·intro hJ7_14_29
                          refine join_ (σ := Value × Value) 9 #[I, I, I, I, I, I, I, I, O, I, I, I, I, I, O, O, I, I, O, O, I, O, O, I, I, I, I, I, I, I, I, O, O] (fun s_ => [(104, s_.1), (126, s_.2), (127, .string (strOfNums y429))]) (fun s_ w' => (h15 w' gb414 (.int .i64 d0) (.int .i64 d1) (.int .i64 d2) (.int .i64 d3) (.bool d4) (.bool d5) (.int .i64 d6) (.bool d7) (.int .u64 d8) (.int .u64 d9) (.bool d10) (.int .u64 d11) (.int .u64 d12) (.slice A0_13 l0_13.length c0_13) (.string d14)) ∧ (Kd.R (Kd.int .u8) 5 w' w.heap.size (fun k_ => some k_ ≠ (s_.2 : Value).ownBlock) s_.1 y423) ∧ (Kd.R (Kd.int .u8) 5 w' w.heap.size (fun k_ => some k_ ≠ (s_.1 : Value).ownBlock) s_.2 y429) ∧ (w'.heap[gb414]? = some (.cells #[.int .i64 d0, .int .i64 d1, .int .i64 d2, .int .i64 d3, .bool d4, .bool d5, .int .i64 d6, .bool d7, .int .u64 d8, .int .u64 d9, .bool d10, .int .u64 d11, .int .u64 d12, .slice A0_13 l0_13.length c0_13, .string d14] 28 (0, 0))) ∧ (Below w.heap.size w w')) ?_ ?_
                          rotate_left
                          ·intro hJ7_29_30
                           refine join_ (σ := Unit) 9 #[I, I, I, I, I, I, I, O, O, I, I, I, I, I, I, O, I, I, I, O, I, I, O, I, I, I, I, I, I, O, O, O, O] (fun s_ => [(111, .string t426), (115, .string t427), (118, .string t428)]) (fun s_ w' => (h15 w' gb414 (.int .i64 d0) (.int .i64 d1) (.int .i64 d2) (.int .i64 d3) (.bool d4) (.bool d5) (.int .i64 d6) (.bool d7) (.int .u64 d8) (.int .u64 d9) (.bool d10) (.int .u64 d11) (.int .u64 d12) (.slice A0_13 l0_13.length c0_13) (.string d14)) ∧ (w'.heap[gb414]? = some (.cells #[.int .i64 d0, .int .i64 d1, .int .i64 d2, .int .i64 d3, .bool d4, .bool d5, .int .i64 d6, .bool d7, .int .u64 d8, .int .u64 d9, .bool d10, .int .u64 d11, .int .u64 d12, .slice A0_13 l0_13.length c0_13, .string d14] 28 (0, 0))) ∧ (Below w.heap.size w w')) ?_ ?_
                           rotate_left
                           ·intro hJ14_18_21
                            refine join_ (σ := Value) 9 #[I, I, I, I, I, I, I, O, O, I, I, I, I, I, I, O, I, I, I, O, I, O, O, I, I, I, I, I, I, I, O, O, O] (fun s_ => [(111, .string t426), (115, .string t427), (126, s_)]) (fun s_ w' => (h15 w' gb414 (.int .i64 d0) (.int .i64 d1) (.int .i64 d2) (.int .i64 d3) (.bool d4) (.bool d5) (.int .i64 d6) (.bool d7) (.int .u64 d8) (.int .u64 d9) (.bool d10) (.int .u64 d11) (.int .u64 d12) (.slice A0_13 l0_13.length c0_13) (.string d14)) ∧ (Kd.R (Kd.int .u8) 5 w' w.heap.size (fun _ => True) s_ y429) ∧ (w'.heap[gb414]? = some (.cells #[.int .i64 d0, .int .i64 d1, .int .i64 d2, .int .i64 d3, .bool d4, .bool d5, .int .i64 d6, .bool d7, .int .u64 d8, .int .u64 d9, .bool d10, .int .u64 d11, .int .u64 d12, .slice A0_13 l0_13.length c0_13, .string d14] 28 (0, 0))) ∧ (Below w.heap.size w w')) ?_ ?_
                            rotate_left
                            ·intro hJ14_18_29
                             refine join_ (σ := Value) 9 #[I, I, I, I, I, I, I, O, O, I, I, I, I, I, I, O, I, I, O, O, I, O, O, I, I, I, I, I, I, I, I, O, O] (fun s_ => [(111, .string t426), (126, s_), (127, .string (strOfNums y429))]) (fun s_ w' => (h15 w' gb414 (.int .i64 d0) (.int .i64 d1) (.int .i64 d2) (.int .i64 d3) (.bool d4) (.bool d5) (.int .i64 d6) (.bool d7) (.int .u64 d8) (.int .u64 d9) (.bool d10) (.int .u64 d11) (.int .u64 d12) (.slice A0_13 l0_13.length c0_13) (.string d14)) ∧ (Kd.R (Kd.int .u8) 5 w' w.heap.size (fun _ => True) s_ y429) ∧ (w'.heap[gb414]? = some (.cells #[.int .i64 d0, .int .i64 d1, .int .i64 d2, .int .i64 d3, .bool d4, .bool d5, .int .i64 d6, .bool d7, .int .u64 d8, .int .u64 d9, .bool d10, .int .u64 d11, .int .u64 d12, .slice A0_13 l0_13.length c0_13, .string d14] 28 (0, 0))) ∧ (Below w.heap.size w w')) ?_ ?_
                             rotate_left
                             ·intro hJ14_29_30
                              refine join_ (σ := Value) 10 #[I, I, I, I, I, I, I, I, I, I, I, I, I, I, O, O, I, I, O, O, I, O, O, I, I, I, I, I, I, O, O, O, O] (fun s_ => [(104, s_), (105, .string (strOfNums y423))]) (fun s_ w' => (h15 w' gb414 (.int .i64 d0) (.int .i64 d1) (.int .i64 d2) (.int .i64 d3) (.bool d4) (.bool d5) (.int .i64 d6) (.bool d7) (.int .u64 d8) (.int .u64 d9) (.bool d10) (.int .u64 d11) (.int .u64 d12) (.slice A0_13 l0_13.length c0_13) (.string d14)) ∧ (Kd.R (Kd.int .u8) 5 w' w.heap.size (fun _ => True) s_ y423) ∧ (w'.heap[gb414]? = some (.cells #[.int .i64 d0, .int .i64 d1, .int .i64 d2, .int .i64 d3, .bool d4, .bool d5, .int .i64 d6, .bool d7, .int .u64 d8, .int .u64 d9, .bool d10, .int .u64 d11, .int .u64 d12, .slice A0_13 l0_13.length c0_13, .string d14] 28 (0, 0))) ∧ (Below w.heap.size w w')) ?_ ?_
                              rotate_left
                              ·intro hJ7_8
                               refine join_ (σ := Value) 10 #[I, I, I, I, I, I, I, I, O, I, I, I, I, I, I, O, I, I, O, O, I, O, O, I, I, I, I, I, I, O, O, O, O] (fun s_ => [(104, s_), (111, .string t426)]) (fun s_ w' => (h15 w' gb414 (.int .i64 d0) (.int .i64 d1) (.int .i64 d2) (.int .i64 d3) (.bool d4) (.bool d5) (.int .i64 d6) (.bool d7) (.int .u64 d8) (.int .u64 d9) (.bool d10) (.int .u64 d11) (.int .u64 d12) (.slice A0_13 l0_13.length c0_13) (.string d14)) ∧ (Kd.R (Kd.int .u8) 5 w' w.heap.size (fun _ => True) s_ y423) ∧ (w'.heap[gb414]? = some (.cells #[.int .i64 d0, .int .i64 d1, .int .i64 d2, .int .i64 d3, .bool d4, .bool d5, .int .i64 d6, .bool d7, .int .u64 d8, .int .u64 d9, .bool d10, .int .u64 d11, .int .u64 d12, .slice A0_13 l0_13.length c0_13, .string d14] 28 (0, 0))) ∧ (Below w.heap.size w w')) ?_ ?_
                               rotate_left
                               ·intro hJ7_14
                                refine join_ (σ := Value × Value) 10 #[I, I, I, I, I, I, I, I, O, I, I, I, I, I, O, O, I, I, O, O, I, O, O, I, I, I, I, I, I, I, O, O, O] (fun s_ => [(104, s_.1), (126, s_.2)]) (fun s_ w' => (h15 w' gb414 (.int .i64 d0) (.int .i64 d1) (.int .i64 d2) (.int .i64 d3) (.bool d4) (.bool d5) (.int .i64 d6) (.bool d7) (.int .u64 d8) (.int .u64 d9) (.bool d10) (.int .u64 d11) (.int .u64 d12) (.slice A0_13 l0_13.length c0_13) (.string d14)) ∧ (Kd.R (Kd.int .u8) 5 w' w.heap.size (fun k_ => some k_ ≠ (s_.2 : Value).ownBlock) s_.1 y423) ∧ (Kd.R (Kd.int .u8) 5 w' w.heap.size (fun k_ => some k_ ≠ (s_.1 : Value).ownBlock) s_.2 y429) ∧ (w'.heap[gb414]? = some (.cells #[.int .i64 d0, .int .i64 d1, .int .i64 d2, .int .i64 d3, .bool d4, .bool d5, .int .i64 d6, .bool d7, .int .u64 d8, .int .u64 d9, .bool d10, .int .u64 d11, .int .u64 d12, .slice A0_13 l0_13.length c0_13, .string d14] 28 (0, 0))) ∧ (Below w.heap.size w w')) ?_ ?_
                                rotate_left
                                ·intro hJ7_29
                                 refine join_ (σ := Unit) 10 #[I, I, I, I, I, I, I, O, O, I, I, I, I, I, I, O, I, I, I, O, I, O, O, I, I, I, I, I, I, O, O, O, O] (fun s_ => [(111, .string t426), (115, .string t427)]) (fun s_ w' => (h15 w' gb414 (.int .i64 d0) (.int .i64 d1) (.int .i64 d2) (.int .i64 d3) (.bool d4) (.bool d5) (.int .i64 d6) (.bool d7) (.int .u64 d8) (.int .u64 d9) (.bool d10) (.int .u64 d11) (.int .u64 d12) (.slice A0_13 l0_13.length c0_13) (.string d14)) ∧ (w'.heap[gb414]? = some (.cells #[.int .i64 d0, .int .i64 d1, .int .i64 d2, .int .i64 d3, .bool d4, .bool d5, .int .i64 d6, .bool d7, .int .u64 d8, .int .u64 d9, .bool d10, .int .u64 d11, .int .u64 d12, .slice A0_13 l0_13.length c0_13, .string d14] 28 (0, 0))) ∧ (Below w.heap.size w w')) ?_ ?_
                                 rotate_left
                                 ·intro hJ14_18
                                  refine join_ (σ := Value) 10 #[I, I, I, I, I, I, I, O, O, I, I, I, I, I, I, O, I, I, O, O, I, O, O, I, I, I, I, I, I, I, O, O, O] (fun s_ => [(111, .string t426), (126, s_)]) (fun s_ w' => (h15 w' gb414 (.int .i64 d0) (.int .i64 d1) (.int .i64 d2) (.int .i64 d3) (.bool d4) (.bool d5) (.int .i64 d6) (.bool d7) (.int .u64 d8) (.int .u64 d9) (.bool d10) (.int .u64 d11) (.int .u64 d12) (.slice A0_13 l0_13.length c0_13) (.string d14)) ∧ (Kd.R (Kd.int .u8) 5 w' w.heap.size (fun _ => True) s_ y429) ∧ (w'.heap[gb414]? = some (.cells #[.int .i64 d0, .int .i64 d1, .int .i64 d2, .int .i64 d3, .bool d4, .bool d5, .int .i64 d6, .bool d7, .int .u64 d8, .int .u64 d9, .bool d10, .int .u64 d11, .int .u64 d12, .slice A0_13 l0_13.length c0_13, .string d14] 28 (0, 0))) ∧ (Below w.heap.size w w')) ?_ ?_
                                  rotate_left
                                  ·intro hJ14_29
                                   refine join_ (σ := Value) 10 #[I, I, I, I, I, I, I, O, O, I, I, I, I, I, O, O, I, I, O, O, I, O, O, I, I, I, I, I, I, I, I, O, O] (fun s_ => [(126, s_), (127, .string (strOfNums y429))]) (fun s_ w' => (h15 w' gb414 (.int .i64 d0) (.int .i64 d1) (.int .i64 d2) (.int .i64 d3) (.bool d4) (.bool d5) (.int .i64 d6) (.bool d7) (.int .u64 d8) (.int .u64 d9) (.bool d10) (.int .u64 d11) (.int .u64 d12) (.slice A0_13 l0_13.length c0_13) (.string d14)) ∧ (Kd.R (Kd.int .u8) 5 w' w.heap.size (fun _ => True) s_ y429) ∧ (w'.heap[gb414]? = some (.cells #[.int .i64 d0, .int .i64 d1, .int .i64 d2, .int .i64 d3, .bool d4, .bool d5, .int .i64 d6, .bool d7, .int .u64 d8, .int .u64 d9, .bool d10, .int .u64 d11, .int .u64 d12, .slice A0_13 l0_13.length c0_13, .string d14] 28 (0, 0))) ∧ (Below w.heap.size w w')) ?_ ?_
                                   rotate_left
                                   ·intro hJ29_30
                                    refine join_ (σ := Value) 11 #[I, I, I, I, I, I, I, I, O, I, I, I, I, I, O, O, I, I, O, O, I, O, O, I, I, I, I, I, I, O, O, O, O] (fun s_ => [(104, s_)]) (fun s_ w' => (h15 w' gb414 (.int .i64 d0) (.int .i64 d1) (.int .i64 d2) (.int .i64 d3) (.bool d4) (.bool d5) (.int .i64 d6) (.bool d7) (.int .u64 d8) (.int .u64 d9) (.bool d10) (.int .u64 d11) (.int .u64 d12) (.slice A0_13 l0_13.length c0_13) (.string d14)) ∧ (Kd.R (Kd.int .u8) 5 w' w.heap.size (fun _ => True) s_ y423) ∧ (w'.heap[gb414]? = some (.cells #[.int .i64 d0, .int .i64 d1, .int .i64 d2, .int .i64 d3, .bool d4, .bool d5, .int .i64 d6, .bool d7, .int .u64 d8, .int .u64 d9, .bool d10, .int .u64 d11, .int .u64 d12, .slice A0_13 l0_13.length c0_13, .string d14] 28 (0, 0))) ∧ (Below w.heap.size w w')) ?_ ?_
                                    rotate_left
                                    ·intro hJ7
                                     refine join_ (σ := Unit) 11 #[I, I, I, I, I, I, I, O, O, I, I, I, I, I, I, O, I, I, O, O, I, O, O, I, I, I, I, I, I, O, O, O, O] (fun s_ => [(111, .string t426)]) (fun s_ w' => (h15 w' gb414 (.int .i64 d0) (.int .i64 d1) (.int .i64 d2) (.int .i64 d3) (.bool d4) (.bool d5) (.int .i64 d6) (.bool d7) (.int .u64 d8) (.int .u64 d9) (.bool d10) (.int .u64 d11) (.int .u64 d12) (.slice A0_13 l0_13.length c0_13) (.string d14)) ∧ (w'.heap[gb414]? = some (.cells #[.int .i64 d0, .int .i64 d1, .int .i64 d2, .int .i64 d3, .bool d4, .bool d5, .int .i64 d6, .bool d7, .int .u64 d8, .int .u64 d9, .bool d10, .int .u64 d11, .int .u64 d12, .slice A0_13 l0_13.length c0_13, .string d14] 28 (0, 0))) ∧ (Below w.heap.size w w')) ?_ ?_
                                     rotate_left
                                     ·intro hJ14
                                      refine join_ (σ := Value) 11 #[I, I, I, I, I, I, I, O, O, I, I, I, I, I, O, O, I, I, O, O, I, O, O, I, I, I, I, I, I, I, O, O, O] (fun s_ => [(126, s_)]) (fun s_ w' => (h15 w' gb414 (.int .i64 d0) (.int .i64 d1) (.int .i64 d2) (.int .i64 d3) (.bool d4) (.bool d5) (.int .i64 d6) (.bool d7) (.int .u64 d8) (.int .u64 d9) (.bool d10) (.int .u64 d11) (.int .u64 d12) (.slice A0_13 l0_13.length c0_13) (.string d14)) ∧ (Kd.R (Kd.int .u8) 5 w' w.heap.size (fun _ => True) s_ y429) ∧ (w'.heap[gb414]? = some (.cells #[.int .i64 d0, .int .i64 d1, .int .i64 d2, .int .i64 d3, .bool d4, .bool d5, .int .i64 d6, .bool d7, .int .u64 d8, .int .u64 d9, .bool d10, .int .u64 d11, .int .u64 d12, .slice A0_13 l0_13.length c0_13, .string d14] 28 (0, 0))) ∧ (Below w.heap.size w w')) ?_ ?_
                                      rotate_left
                                      ·intro hJ29
                                       refine three_ (i := 7) (j := 14) (k := 29) (Ni := some 104) (Nj := some 111) (Nk := some 126) #[I, I, I, I, I, I, I, I, O, I, I, I, I, I, O, O, I, I, O, O, I, O, O, I, I, I, I, I, I, O, O, O, O] #[I, I, I, I, I, I, I, O, O, I, I, I, I, I, I, O, I, I, O, O, I, O, O, I, I, I, I, I, I, O, O, O, O] #[I, I, I, I, I, I, I, O, O, I, I, I, I, I, O, O, I, I, O, O, I, O, O, I, I, I, I, I, I, I, O, O, O] rfl rfl rfl rfl rfl rfl (three_of HT_.out (by kernel_rfl)) (by decide) (by decide) (by decide) (fun K hK => ?_) (fun K hK => ?_) (fun K hK => ?_)
                                       ·skip
                                        refine Kd.R_lit_step (Kd.int .u8) _ 5 rfl (N := 104) rfl (xs := ([(wrap64 (64 + (wrap64 (Int.tdiv (wrap64 (20 + (t422.size : Int))) 4)))) % 256, (d0) % 256] : List Int)) (inner := [.int .u8 ((wrap64 (64 + (wrap64 (Int.tdiv (wrap64 (20 + (t422.size : Int))) 4)))) % 256), .int .u8 ((d0) % 256)]) (ok := fun _ => True) (okp := fun _ => True) kG ?hp (fun _ hk => hk) trivial (Below.refl _ _) (Nat.le_refl _) (by simp) ?_; (case hp => exact (Reps.one (show Kd.M (Kd.int .u8) _ _ _ ((wrap64 (64 + (wrap64 (Int.tdiv (wrap64 (20 + (t422.size : Int))) 4)))) % 256) [.int .u8 ((wrap64 (64 + (wrap64 (Int.tdiv (wrap64 (20 + (t422.size : Int))) 4)))) % 256)] from rfl) (Reps.one (show Kd.M (Kd.int .u8) _ _ _ ((d0) % 256) [.int .u8 ((d0) % 256)] from rfl) (Reps.none _ _))))
                                        intro v424 w80 ho81 hb hg_ hnew_
                                        clear hg_ hnew_
                                        (first | rw [← Ny423.out] at ho81 | (simp only [Int.reduceToNat] at ho81; rw [← Ny423.out] at ho81))
                                        have HO425 := As (Kd.R_lower ho81 (below_size (kB1 HB.out GE414.out)))
                                        replace BK414 := As (blk_below (kb BK414.out) hb)
                                        replace HB := As (below_step (kB1 HB.out GE414.out) hb)
                                        clear hb ho81
                                        refine hK.out _ _ (cells_15 BK414.out) (fun hHeld => ?_)
                                        clear hK K
                                        refine nP ?_
                                        exact nJ (hJ7 (v424) _ ⟨hHeld, (kR HO425.out), (kb BK414.out), (kB1 HB.out GE414.out)⟩)
                                       ·skip
                                        refine goes_ Try.func44 (by kernel_rfl) rfl #[.int .i64 (wrap64 ((wrap64 (20 + (t422.size : Int))) + (d14.size : Int))), .int .i64 2] (by rfl) rfl rfl kA ?_
                                        with_reducible refine (intrusionref01_Put.calls kj57 (wrap64 ((wrap64 (20 + (t422.size : Int))) + (d14.size : Int))) 2 t426 _ A61.out).mono ?_
                                        rintro e w80 ⟨rfl, hb⟩
                                        refine ⟨_, rfl, ?_⟩
                                        replace BK414 := As (blk_below (kb BK414.out) hb)
                                        replace HB := As (below_step (kB1 HB.out GE414.out) hb)
                                        (try clear hb)
                                        (try clear hb2)
                                        (try clear hk)
                                        (try clear hi)
                                        refine hK.out _ _ (cells_15 BK414.out) (fun hHeld => ?_)
                                        clear hK K
                                        refine nP ?_
                                        exact nJ (hJ14 () _ ⟨hHeld, (kb BK414.out), (kB1 HB.out GE414.out)⟩)
                                       skip
                                       refine Kd.R_lit_step (Kd.int .u8) _ 5 rfl (N := 126) rfl (xs := ([(d2) % 256, (d3) % 256] : List Int)) (inner := [.int .u8 ((d2) % 256), .int .u8 ((d3) % 256)]) (ok := fun _ => True) (okp := fun _ => True) kG ?hp (fun _ hk => hk) trivial (Below.refl _ _) (Nat.le_refl _) (by simp) ?_; (case hp => exact (Reps.one (show Kd.M (Kd.int .u8) _ _ _ ((d2) % 256) [.int .u8 ((d2) % 256)] from rfl) (Reps.one (show Kd.M (Kd.int .u8) _ _ _ ((d3) % 256) [.int .u8 ((d3) % 256)] from rfl) (Reps.none _ _))))
                                       intro v430 w80 ho81 hb hg_ hnew_
                                       clear hg_ hnew_
                                       (first | rw [← Ny429.out] at ho81 | (simp only [Int.reduceToNat] at ho81; rw [← Ny429.out] at ho81))
                                       have HO431 := As (Kd.R_lower ho81 (below_size (kB1 HB.out GE414.out)))
                                       replace BK414 := As (blk_below (kb BK414.out) hb)
                                       replace HB := As (below_step (kB1 HB.out GE414.out) hb)
                                       clear hb ho81
                                       refine hK.out _ _ (cells_15 BK414.out) (fun hHeld => ?_)
                                       clear hK K
                                       refine nP ?_
                                       exact nJ (hJ29 (v430) _ ⟨hHeld, (kR HO431.out), (kb BK414.out), (kB1 HB.out GE414.out)⟩)
                                      skip
                                      rintro v430 w82 ⟨hS_, h0_, h1_, h2_⟩
                                      have n0_ : Aside0 (Kd.R (Kd.int .u8) 5 w82 w.heap.size (fun _ => True) v430 y429) := ⟨h0_⟩
                                      have n1_ : Aside0 (w82.heap[gb414]? = some (.cells #[.int .i64 d0, .int .i64 d1, .int .i64 d2, .int .i64 d3, .bool d4, .bool d5, .int .i64 d6, .bool d7, .int .u64 d8, .int .u64 d9, .bool d10, .int .u64 d11, .int .u64 d12, .slice A0_13 l0_13.length c0_13, .string d14] 28 (0, 0))) := ⟨h1_⟩
                                      have n2_ : Aside0 (Below w.heap.size w w82) := ⟨h2_⟩
                                      clear BK414
                                      clear HB
                                      clear h0_ h1_ h2_
                                      have HO431 := n0_
                                      have BK414 := n1_
                                      have HB := n2_
                                      clear n0_ n1_ n2_
                                      have hHeld : h15 w82 gb414 (.int .i64 d0) (.int .i64 d1) (.int .i64 d2) (.int .i64 d3) (.bool d4) (.bool d5) (.int .i64 d6) (.bool d7) (.int .u64 d8) (.int .u64 d9) (.bool d10) (.int .u64 d11) (.int .u64 d12) (.slice A0_13 l0_13.length c0_13) (.string d14) := hS_
                                      refine norm_ (a' := ?_) ?_ ?_
                                      rotate_left
                                      ·simp only [putAll, Act.put, sA, sZ, sS]
                                       rfl
                                      refine three_ (i := 7) (j := 14) (k := 30) (Ni := some 104) (Nj := some 111) (Nk := some 127) #[I, I, I, I, I, I, I, I, O, I, I, I, I, I, O, O, I, I, O, O, I, O, O, I, I, I, I, I, I, I, O, O, O] #[I, I, I, I, I, I, I, O, O, I, I, I, I, I, I, O, I, I, O, O, I, O, O, I, I, I, I, I, I, I, O, O, O] #[I, I, I, I, I, I, I, O, O, I, I, I, I, I, O, O, I, I, O, O, I, O, O, I, I, I, I, I, I, I, I, O, O] rfl rfl rfl rfl rfl rfl (three_of HT_.out (by kernel_rfl)) (by decide) (by decide) (by decide) (fun K hK => ?_) (fun K hK => ?_) (fun K hK => ?_)
                                      ·skip
                                       refine Kd.R_lit_step (Kd.int .u8) _ 5 rfl (N := 104) rfl (xs := ([(wrap64 (64 + (wrap64 (Int.tdiv (wrap64 (20 + (t422.size : Int))) 4)))) % 256, (d0) % 256] : List Int)) (inner := [.int .u8 ((wrap64 (64 + (wrap64 (Int.tdiv (wrap64 (20 + (t422.size : Int))) 4)))) % 256), .int .u8 ((d0) % 256)]) (ok := fun _ => True) (okp := fun _ => True) kG ?hp (fun _ hk => hk) trivial (Below.refl _ _) (Nat.le_refl _) (by simp) ?_; (case hp => exact (Reps.one (show Kd.M (Kd.int .u8) _ _ _ ((wrap64 (64 + (wrap64 (Int.tdiv (wrap64 (20 + (t422.size : Int))) 4)))) % 256) [.int .u8 ((wrap64 (64 + (wrap64 (Int.tdiv (wrap64 (20 + (t422.size : Int))) 4)))) % 256)] from rfl) (Reps.one (show Kd.M (Kd.int .u8) _ _ _ ((d0) % 256) [.int .u8 ((d0) % 256)] from rfl) (Reps.none _ _))))
                                       intro v424 w83 ho84 hb hg_ hnew_
                                       clear hg_ hnew_
                                       (first | rw [← Ny423.out] at ho84 | (simp only [Int.reduceToNat] at ho84; rw [← Ny423.out] at ho84))
                                       have HO425 := As (Kd.R_lower (Kd.R_new' ho84 (Kd.R_lt (kR HO431.out))) (below_size (kB1 HB.out GE414.out)))
                                       replace HO431 := As (Kd.R_elder' (kR HO431.out) (Kd.R_base ho84) hb)
                                       replace BK414 := As (blk_below (kb BK414.out) hb)
                                       replace HB := As (below_step (kB1 HB.out GE414.out) hb)
                                       clear hb ho84
                                       refine hK.out _ _ (cells_15 BK414.out) (fun hHeld => ?_)
                                       clear hK K
                                       refine nP ?_
                                       exact nJ (hJ7_29 (v424, v430) _ ⟨hHeld, (by (with_reducible repeat (first | apply Kd.R_alloc | apply Kd.R_drewN | apply Kd.R_drew)); exact Kd.R_mono HO425.out (fun _ hk => hk.2)), (by (with_reducible repeat (first | apply Kd.R_alloc | apply Kd.R_drewN | apply Kd.R_drew)); exact Kd.R_mono HO431.out (fun _ hk => hk.2)), (kb BK414.out), (kB1 HB.out GE414.out)⟩)
                                      ·skip
                                       refine goes_ Try.func44 (by kernel_rfl) rfl #[.int .i64 (wrap64 ((wrap64 (20 + (t422.size : Int))) + (d14.size : Int))), .int .i64 2] (by rfl) rfl rfl kA ?_
                                       with_reducible refine (intrusionref01_Put.calls kj57 (wrap64 ((wrap64 (20 + (t422.size : Int))) + (d14.size : Int))) 2 t426 _ A61.out).mono ?_
                                       rintro e w83 ⟨rfl, hb⟩
                                       refine ⟨_, rfl, ?_⟩
                                       replace HO431 := As (Kd.R_below (kR HO431.out) hb)
                                       replace BK414 := As (blk_below (kb BK414.out) hb)
                                       replace HB := As (below_step (kB1 HB.out GE414.out) hb)
                                       (try clear hb)
                                       (try clear hb2)
                                       (try clear hk)
                                       (try clear hi)
                                       refine hK.out _ _ (cells_15 BK414.out) (fun hHeld => ?_)
                                       clear hK K
                                       refine nP ?_
                                       exact nJ (hJ14_29 (v430) _ ⟨hHeld, (kR HO431.out), (kb BK414.out), (kB1 HB.out GE414.out)⟩)
                                      skip
                                      have hcv83 := own_string (P := Try.prog) Try.underlying46 Try.underlying5 Try.underlying9 (Kd.own_of_R HO431.out)
                                      refine value_ (w1 := ?_) (v := ?_) (by rfl) rfl ?_ ?_
                                      rotate_left 2
                                      ·go_simp
                                       constructor
                                       ·rfl
                                       rfl
                                      clear hcv83
                                      refine hK.out _ _ (cells_15 BK414.out) (fun hHeld => ?_)
                                      clear hK K
                                      refine nP ?_
                                      exact nJ (hJ29_30 (v430) _ ⟨hHeld, (kR HO431.out), (kb BK414.out), (kB1 HB.out GE414.out)⟩)
                                     skip
                                     rintro _ w81 ⟨hS_, h0_, h1_⟩
                                     have n0_ : Aside0 (w81.heap[gb414]? = some (.cells #[.int .i64 d0, .int .i64 d1, .int .i64 d2, .int .i64 d3, .bool d4, .bool d5, .int .i64 d6, .bool d7, .int .u64 d8, .int .u64 d9, .bool d10, .int .u64 d11, .int .u64 d12, .slice A0_13 l0_13.length c0_13, .string d14] 28 (0, 0))) := ⟨h0_⟩
                                     have n1_ : Aside0 (Below w.heap.size w w81) := ⟨h1_⟩
                                     clear BK414
                                     clear HB
                                     clear h0_ h1_
                                     have BK414 := n0_
                                     have HB := n1_
                                     clear n0_ n1_
                                     have hHeld : h15 w81 gb414 (.int .i64 d0) (.int .i64 d1) (.int .i64 d2) (.int .i64 d3) (.bool d4) (.bool d5) (.int .i64 d6) (.bool d7) (.int .u64 d8) (.int .u64 d9) (.bool d10) (.int .u64 d11) (.int .u64 d12) (.slice A0_13 l0_13.length c0_13) (.string d14) := hS_
                                     refine norm_ (a' := ?_) ?_ ?_
                                     rotate_left
                                     ·simp only [putAll, Act.put, sA, sZ, sS]
                                      rfl
                                     refine three_ (i := 7) (j := 18) (k := 29) (Ni := some 104) (Nj := some 115) (Nk := some 126) #[I, I, I, I, I, I, I, I, O, I, I, I, I, I, I, O, I, I, O, O, I, O, O, I, I, I, I, I, I, O, O, O, O] #[I, I, I, I, I, I, I, O, O, I, I, I, I, I, I, O, I, I, I, O, I, O, O, I, I, I, I, I, I, O, O, O, O] #[I, I, I, I, I, I, I, O, O, I, I, I, I, I, I, O, I, I, O, O, I, O, O, I, I, I, I, I, I, I, O, O, O] rfl rfl rfl rfl rfl rfl (three_of HT_.out (by kernel_rfl)) (by decide) (by decide) (by decide) (fun K hK => ?_) (fun K hK => ?_) (fun K hK => ?_)
                                     ·skip
                                      refine Kd.R_lit_step (Kd.int .u8) _ 5 rfl (N := 104) rfl (xs := ([(wrap64 (64 + (wrap64 (Int.tdiv (wrap64 (20 + (t422.size : Int))) 4)))) % 256, (d0) % 256] : List Int)) (inner := [.int .u8 ((wrap64 (64 + (wrap64 (Int.tdiv (wrap64 (20 + (t422.size : Int))) 4)))) % 256), .int .u8 ((d0) % 256)]) (ok := fun _ => True) (okp := fun _ => True) kG ?hp (fun _ hk => hk) trivial (Below.refl _ _) (Nat.le_refl _) (by simp) ?_; (case hp => exact (Reps.one (show Kd.M (Kd.int .u8) _ _ _ ((wrap64 (64 + (wrap64 (Int.tdiv (wrap64 (20 + (t422.size : Int))) 4)))) % 256) [.int .u8 ((wrap64 (64 + (wrap64 (Int.tdiv (wrap64 (20 + (t422.size : Int))) 4)))) % 256)] from rfl) (Reps.one (show Kd.M (Kd.int .u8) _ _ _ ((d0) % 256) [.int .u8 ((d0) % 256)] from rfl) (Reps.none _ _))))
                                      intro v424 w82 ho83 hb hg_ hnew_
                                      clear hg_ hnew_
                                      (first | rw [← Ny423.out] at ho83 | (simp only [Int.reduceToNat] at ho83; rw [← Ny423.out] at ho83))
                                      have HO425 := As (Kd.R_lower ho83 (below_size (kB1 HB.out GE414.out)))
                                      replace BK414 := As (blk_below (kb BK414.out) hb)
                                      replace HB := As (below_step (kB1 HB.out GE414.out) hb)
                                      clear hb ho83
                                      refine hK.out _ _ (cells_15 BK414.out) (fun hHeld => ?_)
                                      clear hK K
                                      refine nP ?_
                                      exact nJ (hJ7_14 (v424) _ ⟨hHeld, (kR HO425.out), (kb BK414.out), (kB1 HB.out GE414.out)⟩)
                                     ·skip
                                      refine goes_ Try.func44 (by kernel_rfl) rfl #[.int .i64 d1, .int .i64 2] (by rfl) rfl rfl kA ?_
                                      with_reducible refine (intrusionref01_Put.calls kj57 d1 2 t427 _ A63.out).mono ?_
                                      rintro e w82 ⟨rfl, hb⟩
                                      refine ⟨_, rfl, ?_⟩
                                      replace BK414 := As (blk_below (kb BK414.out) hb)
                                      replace HB := As (below_step (kB1 HB.out GE414.out) hb)
                                      (try clear hb)
                                      (try clear hb2)
                                      (try clear hk)
                                      (try clear hi)
                                      refine hK.out _ _ (cells_15 BK414.out) (fun hHeld => ?_)
                                      clear hK K
                                      refine nP ?_
                                      exact nJ (hJ14_18 () _ ⟨hHeld, (kb BK414.out), (kB1 HB.out GE414.out)⟩)
                                     skip
                                     refine Kd.R_lit_step (Kd.int .u8) _ 5 rfl (N := 126) rfl (xs := ([(d2) % 256, (d3) % 256] : List Int)) (inner := [.int .u8 ((d2) % 256), .int .u8 ((d3) % 256)]) (ok := fun _ => True) (okp := fun _ => True) kG ?hp (fun _ hk => hk) trivial (Below.refl _ _) (Nat.le_refl _) (by simp) ?_; (case hp => exact (Reps.one (show Kd.M (Kd.int .u8) _ _ _ ((d2) % 256) [.int .u8 ((d2) % 256)] from rfl) (Reps.one (show Kd.M (Kd.int .u8) _ _ _ ((d3) % 256) [.int .u8 ((d3) % 256)] from rfl) (Reps.none _ _))))
                                     intro v430 w82 ho83 hb hg_ hnew_
                                     clear hg_ hnew_
                                     (first | rw [← Ny429.out] at ho83 | (simp only [Int.reduceToNat] at ho83; rw [← Ny429.out] at ho83))
                                     have HO431 := As (Kd.R_lower ho83 (below_size (kB1 HB.out GE414.out)))
                                     replace BK414 := As (blk_below (kb BK414.out) hb)
                                     replace HB := As (below_step (kB1 HB.out GE414.out) hb)
                                     clear hb ho83
                                     refine hK.out _ _ (cells_15 BK414.out) (fun hHeld => ?_)
                                     clear hK K
                                     refine nP ?_
                                     exact nJ (hJ14_29 (v430) _ ⟨hHeld, (kR HO431.out), (kb BK414.out), (kB1 HB.out GE414.out)⟩)
                                    skip
                                    rintro v424 w82 ⟨hS_, h0_, h1_, h2_⟩
                                    have n0_ : Aside0 (Kd.R (Kd.int .u8) 5 w82 w.heap.size (fun _ => True) v424 y423) := ⟨h0_⟩
                                    have n1_ : Aside0 (w82.heap[gb414]? = some (.cells #[.int .i64 d0, .int .i64 d1, .int .i64 d2, .int .i64 d3, .bool d4, .bool d5, .int .i64 d6, .bool d7, .int .u64 d8, .int .u64 d9, .bool d10, .int .u64 d11, .int .u64 d12, .slice A0_13 l0_13.length c0_13, .string d14] 28 (0, 0))) := ⟨h1_⟩
                                    have n2_ : Aside0 (Below w.heap.size w w82) := ⟨h2_⟩
                                    clear BK414
                                    clear HB
                                    clear h0_ h1_ h2_
                                    have HO425 := n0_
                                    have BK414 := n1_
                                    have HB := n2_
                                    clear n0_ n1_ n2_
                                    have hHeld : h15 w82 gb414 (.int .i64 d0) (.int .i64 d1) (.int .i64 d2) (.int .i64 d3) (.bool d4) (.bool d5) (.int .i64 d6) (.bool d7) (.int .u64 d8) (.int .u64 d9) (.bool d10) (.int .u64 d11) (.int .u64 d12) (.slice A0_13 l0_13.length c0_13) (.string d14) := hS_
                                    refine norm_ (a' := ?_) ?_ ?_
                                    rotate_left
                                    ·simp only [putAll, Act.put, sA, sZ, sS]
                                     rfl
                                    refine three_ (i := 8) (j := 14) (k := 29) (Ni := some 105) (Nj := some 111) (Nk := some 126) #[I, I, I, I, I, I, I, I, I, I, I, I, I, I, O, O, I, I, O, O, I, O, O, I, I, I, I, I, I, O, O, O, O] #[I, I, I, I, I, I, I, I, O, I, I, I, I, I, I, O, I, I, O, O, I, O, O, I, I, I, I, I, I, O, O, O, O] #[I, I, I, I, I, I, I, I, O, I, I, I, I, I, O, O, I, I, O, O, I, O, O, I, I, I, I, I, I, I, O, O, O] rfl rfl rfl rfl rfl rfl (three_of HT_.out (by kernel_rfl)) (by decide) (by decide) (by decide) (fun K hK => ?_) (fun K hK => ?_) (fun K hK => ?_)
                                    ·skip
                                     have hcv83 := own_string (P := Try.prog) Try.underlying46 Try.underlying5 Try.underlying9 (Kd.own_of_R HO425.out)
                                     refine value_ (w1 := ?_) (v := ?_) (by rfl) rfl ?_ ?_
                                     rotate_left 2
                                     ·go_simp
                                      constructor
                                      ·rfl
                                      rfl
                                     clear hcv83
                                     refine hK.out _ _ (cells_15 BK414.out) (fun hHeld => ?_)
                                     clear hK K
                                     refine nP ?_
                                     exact nJ (hJ7_8 (v424) _ ⟨hHeld, (kR HO425.out), (kb BK414.out), (kB1 HB.out GE414.out)⟩)
                                    ·skip
                                     refine goes_ Try.func44 (by kernel_rfl) rfl #[.int .i64 (wrap64 ((wrap64 (20 + (t422.size : Int))) + (d14.size : Int))), .int .i64 2] (by rfl) rfl rfl kA ?_
                                     with_reducible refine (intrusionref01_Put.calls kj57 (wrap64 ((wrap64 (20 + (t422.size : Int))) + (d14.size : Int))) 2 t426 _ A61.out).mono ?_
                                     rintro e w83 ⟨rfl, hb⟩
                                     refine ⟨_, rfl, ?_⟩
                                     replace HO425 := As (Kd.R_below (kR HO425.out) hb)
                                     replace BK414 := As (blk_below (kb BK414.out) hb)
                                     replace HB := As (below_step (kB1 HB.out GE414.out) hb)
                                     (try clear hb)
                                     (try clear hb2)
                                     (try clear hk)
                                     (try clear hi)
                                     refine hK.out _ _ (cells_15 BK414.out) (fun hHeld => ?_)
                                     clear hK K
                                     refine nP ?_
                                     exact nJ (hJ7_14 (v424) _ ⟨hHeld, (kR HO425.out), (kb BK414.out), (kB1 HB.out GE414.out)⟩)
                                    skip
                                    refine Kd.R_lit_step (Kd.int .u8) _ 5 rfl (N := 126) rfl (xs := ([(d2) % 256, (d3) % 256] : List Int)) (inner := [.int .u8 ((d2) % 256), .int .u8 ((d3) % 256)]) (ok := fun _ => True) (okp := fun _ => True) kG ?hp (fun _ hk => hk) trivial (Below.refl _ _) (Nat.le_refl _) (by simp) ?_; (case hp => exact (Reps.one (show Kd.M (Kd.int .u8) _ _ _ ((d2) % 256) [.int .u8 ((d2) % 256)] from rfl) (Reps.one (show Kd.M (Kd.int .u8) _ _ _ ((d3) % 256) [.int .u8 ((d3) % 256)] from rfl) (Reps.none _ _))))
                                    intro v430 w83 ho84 hb hg_ hnew_
                                    clear hg_ hnew_
                                    (first | rw [← Ny429.out] at ho84 | (simp only [Int.reduceToNat] at ho84; rw [← Ny429.out] at ho84))
                                    have HO431 := As (Kd.R_lower (Kd.R_new' ho84 (Kd.R_lt (kR HO425.out))) (below_size (kB1 HB.out GE414.out)))
                                    replace HO425 := As (Kd.R_elder' (kR HO425.out) (Kd.R_base ho84) hb)
                                    replace BK414 := As (blk_below (kb BK414.out) hb)
                                    replace HB := As (below_step (kB1 HB.out GE414.out) hb)
                                    clear hb ho84
                                    refine hK.out _ _ (cells_15 BK414.out) (fun hHeld => ?_)
                                    clear hK K
                                    refine nP ?_
                                    exact nJ (hJ7_29 (v424, v430) _ ⟨hHeld, (by (with_reducible repeat (first | apply Kd.R_alloc | apply Kd.R_drewN | apply Kd.R_drew)); exact Kd.R_mono HO425.out (fun _ hk => hk.2)), (by (with_reducible repeat (first | apply Kd.R_alloc | apply Kd.R_drewN | apply Kd.R_drew)); exact Kd.R_mono HO431.out (fun _ hk => hk.2)), (kb BK414.out), (kB1 HB.out GE414.out)⟩)
                                   skip
                                   rintro v430 w83 ⟨hS_, h0_, h1_, h2_⟩
                                   have n0_ : Aside0 (Kd.R (Kd.int .u8) 5 w83 w.heap.size (fun _ => True) v430 y429) := ⟨h0_⟩
                                   have n1_ : Aside0 (w83.heap[gb414]? = some (.cells #[.int .i64 d0, .int .i64 d1, .int .i64 d2, .int .i64 d3, .bool d4, .bool d5, .int .i64 d6, .bool d7, .int .u64 d8, .int .u64 d9, .bool d10, .int .u64 d11, .int .u64 d12, .slice A0_13 l0_13.length c0_13, .string d14] 28 (0, 0))) := ⟨h1_⟩
                                   have n2_ : Aside0 (Below w.heap.size w w83) := ⟨h2_⟩
                                   clear BK414
                                   clear HB
                                   clear h0_ h1_ h2_
                                   have HO431 := n0_
                                   have BK414 := n1_
                                   have HB := n2_
                                   clear n0_ n1_ n2_
                                   have hHeld : h15 w83 gb414 (.int .i64 d0) (.int .i64 d1) (.int .i64 d2) (.int .i64 d3) (.bool d4) (.bool d5) (.int .i64 d6) (.bool d7) (.int .u64 d8) (.int .u64 d9) (.bool d10) (.int .u64 d11) (.int .u64 d12) (.slice A0_13 l0_13.length c0_13) (.string d14) := hS_
                                   refine norm_ (a' := ?_) ?_ ?_
                                   rotate_left
                                   ·simp only [putAll, Act.put, sA, sZ, sS]
                                    rfl
                                   refine two_ (i := 7) (j := 14) (Ni := some 104) (Nj := some 111) #[I, I, I, I, I, I, I, I, O, I, I, I, I, I, O, O, I, I, O, O, I, O, O, I, I, I, I, I, I, I, I, O, O] #[I, I, I, I, I, I, I, O, O, I, I, I, I, I, I, O, I, I, O, O, I, O, O, I, I, I, I, I, I, I, I, O, O] rfl rfl rfl rfl (two_of HT_.out (by kernel_rfl)) (by decide) (by decide) (fun K hK => ?_) (fun K hK => ?_)
                                   ·skip
                                    refine Kd.R_lit_step (Kd.int .u8) _ 5 rfl (N := 104) rfl (xs := ([(wrap64 (64 + (wrap64 (Int.tdiv (wrap64 (20 + (t422.size : Int))) 4)))) % 256, (d0) % 256] : List Int)) (inner := [.int .u8 ((wrap64 (64 + (wrap64 (Int.tdiv (wrap64 (20 + (t422.size : Int))) 4)))) % 256), .int .u8 ((d0) % 256)]) (ok := fun _ => True) (okp := fun _ => True) kG ?hp (fun _ hk => hk) trivial (Below.refl _ _) (Nat.le_refl _) (by simp) ?_; (case hp => exact (Reps.one (show Kd.M (Kd.int .u8) _ _ _ ((wrap64 (64 + (wrap64 (Int.tdiv (wrap64 (20 + (t422.size : Int))) 4)))) % 256) [.int .u8 ((wrap64 (64 + (wrap64 (Int.tdiv (wrap64 (20 + (t422.size : Int))) 4)))) % 256)] from rfl) (Reps.one (show Kd.M (Kd.int .u8) _ _ _ ((d0) % 256) [.int .u8 ((d0) % 256)] from rfl) (Reps.none _ _))))
                                    intro v424 w84 ho85 hb hg_ hnew_
                                    clear hg_ hnew_
                                    (first | rw [← Ny423.out] at ho85 | (simp only [Int.reduceToNat] at ho85; rw [← Ny423.out] at ho85))
                                    have HO425 := As (Kd.R_lower (Kd.R_new' ho85 (Kd.R_lt (kR HO431.out))) (below_size (kB1 HB.out GE414.out)))
                                    replace HO431 := As (Kd.R_elder' (kR HO431.out) (Kd.R_base ho85) hb)
                                    replace BK414 := As (blk_below (kb BK414.out) hb)
                                    replace HB := As (below_step (kB1 HB.out GE414.out) hb)
                                    clear hb ho85
                                    refine hK.out _ _ (cells_15 BK414.out) (fun hHeld => ?_)
                                    clear hK K
                                    refine nP ?_
                                    exact nJ (hJ7_29_30 (v424, v430) _ ⟨hHeld, (by (with_reducible repeat (first | apply Kd.R_alloc | apply Kd.R_drewN | apply Kd.R_drew)); exact Kd.R_mono HO425.out (fun _ hk => hk.2)), (by (with_reducible repeat (first | apply Kd.R_alloc | apply Kd.R_drewN | apply Kd.R_drew)); exact Kd.R_mono HO431.out (fun _ hk => hk.2)), (kb BK414.out), (kB1 HB.out GE414.out)⟩)
                                   skip
                                   refine goes_ Try.func44 (by kernel_rfl) rfl #[.int .i64 (wrap64 ((wrap64 (20 + (t422.size : Int))) + (d14.size : Int))), .int .i64 2] (by rfl) rfl rfl kA ?_
                                   with_reducible refine (intrusionref01_Put.calls kj57 (wrap64 ((wrap64 (20 + (t422.size : Int))) + (d14.size : Int))) 2 t426 _ A61.out).mono ?_
                                   rintro e w84 ⟨rfl, hb⟩
                                   refine ⟨_, rfl, ?_⟩
                                   replace HO431 := As (Kd.R_below (kR HO431.out) hb)
                                   replace BK414 := As (blk_below (kb BK414.out) hb)
                                   replace HB := As (below_step (kB1 HB.out GE414.out) hb)
                                   (try clear hb)
                                   (try clear hb2)
                                   (try clear hk)
                                   (try clear hi)
                                   refine hK.out _ _ (cells_15 BK414.out) (fun hHeld => ?_)
                                   clear hK K
                                   refine nP ?_
                                   exact nJ (hJ14_29_30 (v430) _ ⟨hHeld, (kR HO431.out), (kb BK414.out), (kB1 HB.out GE414.out)⟩)
                                  skip
                                  rintro v430 w83 ⟨hS_, h0_, h1_, h2_⟩
                                  have n0_ : Aside0 (Kd.R (Kd.int .u8) 5 w83 w.heap.size (fun _ => True) v430 y429) := ⟨h0_⟩
                                  have n1_ : Aside0 (w83.heap[gb414]? = some (.cells #[.int .i64 d0, .int .i64 d1, .int .i64 d2, .int .i64 d3, .bool d4, .bool d5, .int .i64 d6, .bool d7, .int .u64 d8, .int .u64 d9, .bool d10, .int .u64 d11, .int .u64 d12, .slice A0_13 l0_13.length c0_13, .string d14] 28 (0, 0))) := ⟨h1_⟩
                                  have n2_ : Aside0 (Below w.heap.size w w83) := ⟨h2_⟩
                                  clear BK414
                                  clear HB
                                  clear h0_ h1_ h2_
                                  have HO431 := n0_
                                  have BK414 := n1_
                                  have HB := n2_
                                  clear n0_ n1_ n2_
                                  have hHeld : h15 w83 gb414 (.int .i64 d0) (.int .i64 d1) (.int .i64 d2) (.int .i64 d3) (.bool d4) (.bool d5) (.int .i64 d6) (.bool d7) (.int .u64 d8) (.int .u64 d9) (.bool d10) (.int .u64 d11) (.int .u64 d12) (.slice A0_13 l0_13.length c0_13) (.string d14) := hS_
                                  refine norm_ (a' := ?_) ?_ ?_
                                  rotate_left
                                  ·simp only [putAll, Act.put, sA, sZ, sS]
                                   rfl
                                  refine three_ (i := 7) (j := 18) (k := 30) (Ni := some 104) (Nj := some 115) (Nk := some 127) #[I, I, I, I, I, I, I, I, O, I, I, I, I, I, I, O, I, I, O, O, I, O, O, I, I, I, I, I, I, I, O, O, O] #[I, I, I, I, I, I, I, O, O, I, I, I, I, I, I, O, I, I, I, O, I, O, O, I, I, I, I, I, I, I, O, O, O] #[I, I, I, I, I, I, I, O, O, I, I, I, I, I, I, O, I, I, O, O, I, O, O, I, I, I, I, I, I, I, I, O, O] rfl rfl rfl rfl rfl rfl (three_of HT_.out (by kernel_rfl)) (by decide) (by decide) (by decide) (fun K hK => ?_) (fun K hK => ?_) (fun K hK => ?_)
                                  ·skip
                                   refine Kd.R_lit_step (Kd.int .u8) _ 5 rfl (N := 104) rfl (xs := ([(wrap64 (64 + (wrap64 (Int.tdiv (wrap64 (20 + (t422.size : Int))) 4)))) % 256, (d0) % 256] : List Int)) (inner := [.int .u8 ((wrap64 (64 + (wrap64 (Int.tdiv (wrap64 (20 + (t422.size : Int))) 4)))) % 256), .int .u8 ((d0) % 256)]) (ok := fun _ => True) (okp := fun _ => True) kG ?hp (fun _ hk => hk) trivial (Below.refl _ _) (Nat.le_refl _) (by simp) ?_; (case hp => exact (Reps.one (show Kd.M (Kd.int .u8) _ _ _ ((wrap64 (64 + (wrap64 (Int.tdiv (wrap64 (20 + (t422.size : Int))) 4)))) % 256) [.int .u8 ((wrap64 (64 + (wrap64 (Int.tdiv (wrap64 (20 + (t422.size : Int))) 4)))) % 256)] from rfl) (Reps.one (show Kd.M (Kd.int .u8) _ _ _ ((d0) % 256) [.int .u8 ((d0) % 256)] from rfl) (Reps.none _ _))))
                                   intro v424 w84 ho85 hb hg_ hnew_
                                   clear hg_ hnew_
                                   (first | rw [← Ny423.out] at ho85 | (simp only [Int.reduceToNat] at ho85; rw [← Ny423.out] at ho85))
                                   have HO425 := As (Kd.R_lower (Kd.R_new' ho85 (Kd.R_lt (kR HO431.out))) (below_size (kB1 HB.out GE414.out)))
                                   replace HO431 := As (Kd.R_elder' (kR HO431.out) (Kd.R_base ho85) hb)
                                   replace BK414 := As (blk_below (kb BK414.out) hb)
                                   replace HB := As (below_step (kB1 HB.out GE414.out) hb)
                                   clear hb ho85
                                   refine hK.out _ _ (cells_15 BK414.out) (fun hHeld => ?_)
                                   clear hK K
                                   refine nP ?_
                                   exact nJ (hJ7_14_29 (v424, v430) _ ⟨hHeld, (by (with_reducible repeat (first | apply Kd.R_alloc | apply Kd.R_drewN | apply Kd.R_drew)); exact Kd.R_mono HO425.out (fun _ hk => hk.2)), (by (with_reducible repeat (first | apply Kd.R_alloc | apply Kd.R_drewN | apply Kd.R_drew)); exact Kd.R_mono HO431.out (fun _ hk => hk.2)), (kb BK414.out), (kB1 HB.out GE414.out)⟩)
                                  ·skip
                                   refine goes_ Try.func44 (by kernel_rfl) rfl #[.int .i64 d1, .int .i64 2] (by rfl) rfl rfl kA ?_
                                   with_reducible refine (intrusionref01_Put.calls kj57 d1 2 t427 _ A63.out).mono ?_
                                   rintro e w84 ⟨rfl, hb⟩
                                   refine ⟨_, rfl, ?_⟩
                                   replace HO431 := As (Kd.R_below (kR HO431.out) hb)
                                   replace BK414 := As (blk_below (kb BK414.out) hb)
                                   replace HB := As (below_step (kB1 HB.out GE414.out) hb)
                                   (try clear hb)
                                   (try clear hb2)
                                   (try clear hk)
                                   (try clear hi)
                                   refine hK.out _ _ (cells_15 BK414.out) (fun hHeld => ?_)
                                   clear hK K
                                   refine nP ?_
                                   exact nJ (hJ14_18_29 (v430) _ ⟨hHeld, (kR HO431.out), (kb BK414.out), (kB1 HB.out GE414.out)⟩)
                                  skip
                                  have hcv84 := own_string (P := Try.prog) Try.underlying46 Try.underlying5 Try.underlying9 (Kd.own_of_R HO431.out)
                                  refine value_ (w1 := ?_) (v := ?_) (by rfl) rfl ?_ ?_
                                  rotate_left 2
                                  ·go_simp
                                   constructor
                                   ·rfl
                                   rfl
                                  clear hcv84
                                  refine hK.out _ _ (cells_15 BK414.out) (fun hHeld => ?_)
                                  clear hK K
                                  refine nP ?_
                                  exact nJ (hJ14_29_30 (v430) _ ⟨hHeld, (kR HO431.out), (kb BK414.out), (kB1 HB.out GE414.out)⟩)
                                 skip
                                 rintro _ w82 ⟨hS_, h0_, h1_⟩
                                 have n0_ : Aside0 (w82.heap[gb414]? = some (.cells #[.int .i64 d0, .int .i64 d1, .int .i64 d2, .int .i64 d3, .bool d4, .bool d5, .int .i64 d6, .bool d7, .int .u64 d8, .int .u64 d9, .bool d10, .int .u64 d11, .int .u64 d12, .slice A0_13 l0_13.length c0_13, .string d14] 28 (0, 0))) := ⟨h0_⟩
                                 have n1_ : Aside0 (Below w.heap.size w w82) := ⟨h1_⟩
                                 clear BK414
                                 clear HB
                                 clear h0_ h1_
                                 have BK414 := n0_
                                 have HB := n1_
                                 clear n0_ n1_
                                 have hHeld : h15 w82 gb414 (.int .i64 d0) (.int .i64 d1) (.int .i64 d2) (.int .i64 d3) (.bool d4) (.bool d5) (.int .i64 d6) (.bool d7) (.int .u64 d8) (.int .u64 d9) (.bool d10) (.int .u64 d11) (.int .u64 d12) (.slice A0_13 l0_13.length c0_13) (.string d14) := hS_
                                 refine norm_ (a' := ?_) ?_ ?_
                                 rotate_left
                                 ·simp only [putAll, Act.put, sA, sZ, sS]
                                  rfl
                                 refine three_ (i := 7) (j := 21) (k := 29) (Ni := some 104) (Nj := some 118) (Nk := some 126) #[I, I, I, I, I, I, I, I, O, I, I, I, I, I, I, O, I, I, I, O, I, O, O, I, I, I, I, I, I, O, O, O, O] #[I, I, I, I, I, I, I, O, O, I, I, I, I, I, I, O, I, I, I, O, I, I, O, I, I, I, I, I, I, O, O, O, O] #[I, I, I, I, I, I, I, O, O, I, I, I, I, I, I, O, I, I, I, O, I, O, O, I, I, I, I, I, I, I, O, O, O] rfl rfl rfl rfl rfl rfl (three_of HT_.out (by kernel_rfl)) (by decide) (by decide) (by decide) (fun K hK => ?_) (fun K hK => ?_) (fun K hK => ?_)
                                 ·skip
                                  refine Kd.R_lit_step (Kd.int .u8) _ 5 rfl (N := 104) rfl (xs := ([(wrap64 (64 + (wrap64 (Int.tdiv (wrap64 (20 + (t422.size : Int))) 4)))) % 256, (d0) % 256] : List Int)) (inner := [.int .u8 ((wrap64 (64 + (wrap64 (Int.tdiv (wrap64 (20 + (t422.size : Int))) 4)))) % 256), .int .u8 ((d0) % 256)]) (ok := fun _ => True) (okp := fun _ => True) kG ?hp (fun _ hk => hk) trivial (Below.refl _ _) (Nat.le_refl _) (by simp) ?_; (case hp => exact (Reps.one (show Kd.M (Kd.int .u8) _ _ _ ((wrap64 (64 + (wrap64 (Int.tdiv (wrap64 (20 + (t422.size : Int))) 4)))) % 256) [.int .u8 ((wrap64 (64 + (wrap64 (Int.tdiv (wrap64 (20 + (t422.size : Int))) 4)))) % 256)] from rfl) (Reps.one (show Kd.M (Kd.int .u8) _ _ _ ((d0) % 256) [.int .u8 ((d0) % 256)] from rfl) (Reps.none _ _))))
                                  intro v424 w83 ho84 hb hg_ hnew_
                                  clear hg_ hnew_
                                  (first | rw [← Ny423.out] at ho84 | (simp only [Int.reduceToNat] at ho84; rw [← Ny423.out] at ho84))
                                  have HO425 := As (Kd.R_lower ho84 (below_size (kB1 HB.out GE414.out)))
                                  replace BK414 := As (blk_below (kb BK414.out) hb)
                                  replace HB := As (below_step (kB1 HB.out GE414.out) hb)
                                  clear hb ho84
                                  refine hK.out _ _ (cells_15 BK414.out) (fun hHeld => ?_)
                                  clear hK K
                                  refine nP ?_
                                  exact nJ (hJ7_14_18 (v424) _ ⟨hHeld, (kR HO425.out), (kb BK414.out), (kB1 HB.out GE414.out)⟩)
                                 ·skip
                                  refine goes_ Try.func44 (by kernel_rfl) rfl #[.int .i64 x6_57, .int .i64 2] (by rfl) rfl rfl kA ?_
                                  with_reducible refine (intrusionref01_Put.calls kj57 x6_57 2 t428 _ A65.out).mono ?_
                                  rintro e w83 ⟨rfl, hb⟩
                                  refine ⟨_, rfl, ?_⟩
                                  replace BK414 := As (blk_below (kb BK414.out) hb)
                                  replace HB := As (below_step (kB1 HB.out GE414.out) hb)
                                  (try clear hb)
                                  (try clear hb2)
                                  (try clear hk)
                                  (try clear hi)
                                  refine hK.out _ _ (cells_15 BK414.out) (fun hHeld => ?_)
                                  clear hK K
                                  refine nP ?_
                                  exact nJ (hJ14_18_21 () _ ⟨hHeld, (kb BK414.out), (kB1 HB.out GE414.out)⟩)
                                 skip
                                 refine Kd.R_lit_step (Kd.int .u8) _ 5 rfl (N := 126) rfl (xs := ([(d2) % 256, (d3) % 256] : List Int)) (inner := [.int .u8 ((d2) % 256), .int .u8 ((d3) % 256)]) (ok := fun _ => True) (okp := fun _ => True) kG ?hp (fun _ hk => hk) trivial (Below.refl _ _) (Nat.le_refl _) (by simp) ?_; (case hp => exact (Reps.one (show Kd.M (Kd.int .u8) _ _ _ ((d2) % 256) [.int .u8 ((d2) % 256)] from rfl) (Reps.one (show Kd.M (Kd.int .u8) _ _ _ ((d3) % 256) [.int .u8 ((d3) % 256)] from rfl) (Reps.none _ _))))
                                 intro v430 w83 ho84 hb hg_ hnew_
                                 clear hg_ hnew_
                                 (first | rw [← Ny429.out] at ho84 | (simp only [Int.reduceToNat] at ho84; rw [← Ny429.out] at ho84))
                                 have HO431 := As (Kd.R_lower ho84 (below_size (kB1 HB.out GE414.out)))
                                 replace BK414 := As (blk_below (kb BK414.out) hb)
                                 replace HB := As (below_step (kB1 HB.out GE414.out) hb)
                                 clear hb ho84
                                 refine hK.out _ _ (cells_15 BK414.out) (fun hHeld => ?_)
                                 clear hK K
                                 refine nP ?_
                                 exact nJ (hJ14_18_29 (v430) _ ⟨hHeld, (kR HO431.out), (kb BK414.out), (kB1 HB.out GE414.out)⟩)
                                skip
                                rintro ⟨v424, v430⟩ w84 ⟨hS_, h0_, h1_, h2_, h3_⟩
                                have n0_ : Aside0 (Kd.R (Kd.int .u8) 5 w84 w.heap.size (fun k_ => some k_ ≠ (v430 : Value).ownBlock) v424 y423) := ⟨h0_⟩
                                have n1_ : Aside0 (Kd.R (Kd.int .u8) 5 w84 w.heap.size (fun k_ => some k_ ≠ (v424 : Value).ownBlock) v430 y429) := ⟨h1_⟩
                                have n2_ : Aside0 (w84.heap[gb414]? = some (.cells #[.int .i64 d0, .int .i64 d1, .int .i64 d2, .int .i64 d3, .bool d4, .bool d5, .int .i64 d6, .bool d7, .int .u64 d8, .int .u64 d9, .bool d10, .int .u64 d11, .int .u64 d12, .slice A0_13 l0_13.length c0_13, .string d14] 28 (0, 0))) := ⟨h2_⟩
                                have n3_ : Aside0 (Below w.heap.size w w84) := ⟨h3_⟩
                                clear BK414
                                clear HB
                                clear h0_ h1_ h2_ h3_
                                have HO425 := n0_
                                have HO431 := n1_
                                have BK414 := n2_
                                have HB := n3_
                                clear n0_ n1_ n2_ n3_
                                have hHeld : h15 w84 gb414 (.int .i64 d0) (.int .i64 d1) (.int .i64 d2) (.int .i64 d3) (.bool d4) (.bool d5) (.int .i64 d6) (.bool d7) (.int .u64 d8) (.int .u64 d9) (.bool d10) (.int .u64 d11) (.int .u64 d12) (.slice A0_13 l0_13.length c0_13) (.string d14) := hS_
                                refine norm_ (a' := ?_) ?_ ?_
                                rotate_left
                                ·simp only [putAll, Act.put, sA, sZ, sS]
                                 rfl
                                refine three_ (i := 8) (j := 14) (k := 30) (Ni := some 105) (Nj := some 111) (Nk := some 127) #[I, I, I, I, I, I, I, I, I, I, I, I, I, I, O, O, I, I, O, O, I, O, O, I, I, I, I, I, I, I, O, O, O] #[I, I, I, I, I, I, I, I, O, I, I, I, I, I, I, O, I, I, O, O, I, O, O, I, I, I, I, I, I, I, O, O, O] #[I, I, I, I, I, I, I, I, O, I, I, I, I, I, O, O, I, I, O, O, I, O, O, I, I, I, I, I, I, I, I, O, O] rfl rfl rfl rfl rfl rfl (three_of HT_.out (by kernel_rfl)) (by decide) (by decide) (by decide) (fun K hK => ?_) (fun K hK => ?_) (fun K hK => ?_)
                                ·skip
                                 have hcv85 := own_string (P := Try.prog) Try.underlying46 Try.underlying5 Try.underlying9 (Kd.own_of_R HO425.out)
                                 refine value_ (w1 := ?_) (v := ?_) (by rfl) rfl ?_ ?_
                                 rotate_left 2
                                 ·go_simp
                                  constructor
                                  ·rfl
                                  rfl
                                 clear hcv85
                                 refine hK.out _ _ (cells_15 BK414.out) (fun hHeld => ?_)
                                 clear hK K
                                 refine nP ?_
                                 exact nJ (hJ7_8_29 (v424, v430) _ ⟨hHeld, (kR HO425.out), (kR HO431.out), (kb BK414.out), (kB1 HB.out GE414.out)⟩)
                                ·skip
                                 refine goes_ Try.func44 (by kernel_rfl) rfl #[.int .i64 (wrap64 ((wrap64 (20 + (t422.size : Int))) + (d14.size : Int))), .int .i64 2] (by rfl) rfl rfl kA ?_
                                 with_reducible refine (intrusionref01_Put.calls kj57 (wrap64 ((wrap64 (20 + (t422.size : Int))) + (d14.size : Int))) 2 t426 _ A61.out).mono ?_
                                 rintro e w85 ⟨rfl, hb⟩
                                 refine ⟨_, rfl, ?_⟩
                                 replace HO425 := As (Kd.R_below (kR HO425.out) hb)
                                 replace HO431 := As (Kd.R_below (kR HO431.out) hb)
                                 replace BK414 := As (blk_below (kb BK414.out) hb)
                                 replace HB := As (below_step (kB1 HB.out GE414.out) hb)
                                 (try clear hb)
                                 (try clear hb2)
                                 (try clear hk)
                                 (try clear hi)
                                 refine hK.out _ _ (cells_15 BK414.out) (fun hHeld => ?_)
                                 clear hK K
                                 refine nP ?_
                                 exact nJ (hJ7_14_29 (v424, v430) _ ⟨hHeld, (kR HO425.out), (kR HO431.out), (kb BK414.out), (kB1 HB.out GE414.out)⟩)
                                skip
                                have hcv85 := own_string (P := Try.prog) Try.underlying46 Try.underlying5 Try.underlying9 (Kd.own_of_R HO431.out)
                                refine value_ (w1 := ?_) (v := ?_) (by rfl) rfl ?_ ?_
                                rotate_left 2
                                ·go_simp
                                 constructor
                                 ·rfl
                                 rfl
                                clear hcv85
                                refine hK.out _ _ (cells_15 BK414.out) (fun hHeld => ?_)
                                clear hK K
                                refine nP ?_
                                exact nJ (hJ7_29_30 (v424, v430) _ ⟨hHeld, (kR HO425.out), (kR HO431.out), (kb BK414.out), (kB1 HB.out GE414.out)⟩)
                               skip
                               rintro v424 w83 ⟨hS_, h0_, h1_, h2_⟩
                               have n0_ : Aside0 (Kd.R (Kd.int .u8) 5 w83 w.heap.size (fun _ => True) v424 y423) := ⟨h0_⟩
                               have n1_ : Aside0 (w83.heap[gb414]? = some (.cells #[.int .i64 d0, .int .i64 d1, .int .i64 d2, .int .i64 d3, .bool d4, .bool d5, .int .i64 d6, .bool d7, .int .u64 d8, .int .u64 d9, .bool d10, .int .u64 d11, .int .u64 d12, .slice A0_13 l0_13.length c0_13, .string d14] 28 (0, 0))) := ⟨h1_⟩
                               have n2_ : Aside0 (Below w.heap.size w w83) := ⟨h2_⟩
                               clear BK414
                               clear HB
                               clear h0_ h1_ h2_
                               have HO425 := n0_
                               have BK414 := n1_
                               have HB := n2_
                               clear n0_ n1_ n2_
                               have hHeld : h15 w83 gb414 (.int .i64 d0) (.int .i64 d1) (.int .i64 d2) (.int .i64 d3) (.bool d4) (.bool d5) (.int .i64 d6) (.bool d7) (.int .u64 d8) (.int .u64 d9) (.bool d10) (.int .u64 d11) (.int .u64 d12) (.slice A0_13 l0_13.length c0_13) (.string d14) := hS_
                               refine norm_ (a' := ?_) ?_ ?_
                               rotate_left
                               ·simp only [putAll, Act.put, sA, sZ, sS]
                                rfl
                               refine three_ (i := 8) (j := 18) (k := 29) (Ni := some 105) (Nj := some 115) (Nk := some 126) #[I, I, I, I, I, I, I, I, I, I, I, I, I, I, I, O, I, I, O, O, I, O, O, I, I, I, I, I, I, O, O, O, O] #[I, I, I, I, I, I, I, I, O, I, I, I, I, I, I, O, I, I, I, O, I, O, O, I, I, I, I, I, I, O, O, O, O] #[I, I, I, I, I, I, I, I, O, I, I, I, I, I, I, O, I, I, O, O, I, O, O, I, I, I, I, I, I, I, O, O, O] rfl rfl rfl rfl rfl rfl (three_of HT_.out (by kernel_rfl)) (by decide) (by decide) (by decide) (fun K hK => ?_) (fun K hK => ?_) (fun K hK => ?_)
                               ·skip
                                have hcv84 := own_string (P := Try.prog) Try.underlying46 Try.underlying5 Try.underlying9 (Kd.own_of_R HO425.out)
                                refine value_ (w1 := ?_) (v := ?_) (by rfl) rfl ?_ ?_
                                rotate_left 2
                                ·go_simp
                                 constructor
                                 ·rfl
                                 rfl
                                clear hcv84
                                refine hK.out _ _ (cells_15 BK414.out) (fun hHeld => ?_)
                                clear hK K
                                refine nP ?_
                                refine kP 15 112 #[I, I, I, I, I, I, I, I, I, I, I, I, I, I, I, I, I, I, O, O, I, O, O, I, I, I, I, I, I, O, O, O, O] ?_ (any_of HT_.out (by kernel_rfl))
                                exact nJ (hJ7_8_14 (v424) _ ⟨hHeld, (kR HO425.out), (kb BK414.out), (kB1 HB.out GE414.out)⟩)
                               ·skip
                                refine goes_ Try.func44 (by kernel_rfl) rfl #[.int .i64 d1, .int .i64 2] (by rfl) rfl rfl kA ?_
                                with_reducible refine (intrusionref01_Put.calls kj57 d1 2 t427 _ A63.out).mono ?_
                                rintro e w84 ⟨rfl, hb⟩
                                refine ⟨_, rfl, ?_⟩
                                replace HO425 := As (Kd.R_below (kR HO425.out) hb)
                                replace BK414 := As (blk_below (kb BK414.out) hb)
                                replace HB := As (below_step (kB1 HB.out GE414.out) hb)
                                (try clear hb)
                                (try clear hb2)
                                (try clear hk)
                                (try clear hi)
                                refine hK.out _ _ (cells_15 BK414.out) (fun hHeld => ?_)
                                clear hK K
                                refine nP ?_
                                exact nJ (hJ7_14_18 (v424) _ ⟨hHeld, (kR HO425.out), (kb BK414.out), (kB1 HB.out GE414.out)⟩)
                               skip
                               refine Kd.R_lit_step (Kd.int .u8) _ 5 rfl (N := 126) rfl (xs := ([(d2) % 256, (d3) % 256] : List Int)) (inner := [.int .u8 ((d2) % 256), .int .u8 ((d3) % 256)]) (ok := fun _ => True) (okp := fun _ => True) kG ?hp (fun _ hk => hk) trivial (Below.refl _ _) (Nat.le_refl _) (by simp) ?_; (case hp => exact (Reps.one (show Kd.M (Kd.int .u8) _ _ _ ((d2) % 256) [.int .u8 ((d2) % 256)] from rfl) (Reps.one (show Kd.M (Kd.int .u8) _ _ _ ((d3) % 256) [.int .u8 ((d3) % 256)] from rfl) (Reps.none _ _))))
                               intro v430 w84 ho85 hb hg_ hnew_
                               clear hg_ hnew_
                               (first | rw [← Ny429.out] at ho85 | (simp only [Int.reduceToNat] at ho85; rw [← Ny429.out] at ho85))
                               have HO431 := As (Kd.R_lower (Kd.R_new' ho85 (Kd.R_lt (kR HO425.out))) (below_size (kB1 HB.out GE414.out)))
                               replace HO425 := As (Kd.R_elder' (kR HO425.out) (Kd.R_base ho85) hb)
                               replace BK414 := As (blk_below (kb BK414.out) hb)
                               replace HB := As (below_step (kB1 HB.out GE414.out) hb)
                               clear hb ho85
                               refine hK.out _ _ (cells_15 BK414.out) (fun hHeld => ?_)
                               clear hK K
                               refine nP ?_
                               exact nJ (hJ7_14_29 (v424, v430) _ ⟨hHeld, (by (with_reducible repeat (first | apply Kd.R_alloc | apply Kd.R_drewN | apply Kd.R_drew)); exact Kd.R_mono HO425.out (fun _ hk => hk.2)), (by (with_reducible repeat (first | apply Kd.R_alloc | apply Kd.R_drewN | apply Kd.R_drew)); exact Kd.R_mono HO431.out (fun _ hk => hk.2)), (kb BK414.out), (kB1 HB.out GE414.out)⟩)
                              skip
                              rintro v424 w83 ⟨hS_, h0_, h1_, h2_⟩
                              have n0_ : Aside0 (Kd.R (Kd.int .u8) 5 w83 w.heap.size (fun _ => True) v424 y423) := ⟨h0_⟩
                              have n1_ : Aside0 (w83.heap[gb414]? = some (.cells #[.int .i64 d0, .int .i64 d1, .int .i64 d2, .int .i64 d3, .bool d4, .bool d5, .int .i64 d6, .bool d7, .int .u64 d8, .int .u64 d9, .bool d10, .int .u64 d11, .int .u64 d12, .slice A0_13 l0_13.length c0_13, .string d14] 28 (0, 0))) := ⟨h1_⟩
                              have n2_ : Aside0 (Below w.heap.size w w83) := ⟨h2_⟩
                              clear BK414
                              clear HB
                              clear h0_ h1_ h2_
                              have HO425 := n0_
                              have BK414 := n1_
                              have HB := n2_
                              clear n0_ n1_ n2_
                              have hHeld : h15 w83 gb414 (.int .i64 d0) (.int .i64 d1) (.int .i64 d2) (.int .i64 d3) (.bool d4) (.bool d5) (.int .i64 d6) (.bool d7) (.int .u64 d8) (.int .u64 d9) (.bool d10) (.int .u64 d11) (.int .u64 d12) (.slice A0_13 l0_13.length c0_13) (.string d14) := hS_
                              refine norm_ (a' := ?_) ?_ ?_
                              rotate_left
                              ·simp only [putAll, Act.put, sA, sZ, sS]
                               rfl
                              refine two_ (i := 14) (j := 29) (Ni := some 111) (Nj := some 126) #[I, I, I, I, I, I, I, I, I, I, I, I, I, I, I, O, I, I, O, O, I, O, O, I, I, I, I, I, I, O, O, O, O] #[I, I, I, I, I, I, I, I, I, I, I, I, I, I, O, O, I, I, O, O, I, O, O, I, I, I, I, I, I, I, O, O, O] rfl rfl rfl rfl (two_of HT_.out (by kernel_rfl)) (by decide) (by decide) (fun K hK => ?_) (fun K hK => ?_)
                              ·skip
                               refine goes_ Try.func44 (by kernel_rfl) rfl #[.int .i64 (wrap64 ((wrap64 (20 + (t422.size : Int))) + (d14.size : Int))), .int .i64 2] (by rfl) rfl rfl kA ?_
                               with_reducible refine (intrusionref01_Put.calls kj57 (wrap64 ((wrap64 (20 + (t422.size : Int))) + (d14.size : Int))) 2 t426 _ A61.out).mono ?_
                               rintro e w84 ⟨rfl, hb⟩
                               refine ⟨_, rfl, ?_⟩
                               replace HO425 := As (Kd.R_below (kR HO425.out) hb)
                               replace BK414 := As (blk_below (kb BK414.out) hb)
                               replace HB := As (below_step (kB1 HB.out GE414.out) hb)
                               (try clear hb)
                               (try clear hb2)
                               (try clear hk)
                               (try clear hi)
                               refine hK.out _ _ (cells_15 BK414.out) (fun hHeld => ?_)
                               clear hK K
                               refine nP ?_
                               refine kP 15 112 #[I, I, I, I, I, I, I, I, I, I, I, I, I, I, I, I, I, I, O, O, I, O, O, I, I, I, I, I, I, O, O, O, O] ?_ (any_of HT_.out (by kernel_rfl))
                               exact nJ (hJ7_8_14 (v424) _ ⟨hHeld, (kR HO425.out), (kb BK414.out), (kB1 HB.out GE414.out)⟩)
                              skip
                              refine Kd.R_lit_step (Kd.int .u8) _ 5 rfl (N := 126) rfl (xs := ([(d2) % 256, (d3) % 256] : List Int)) (inner := [.int .u8 ((d2) % 256), .int .u8 ((d3) % 256)]) (ok := fun _ => True) (okp := fun _ => True) kG ?hp (fun _ hk => hk) trivial (Below.refl _ _) (Nat.le_refl _) (by simp) ?_; (case hp => exact (Reps.one (show Kd.M (Kd.int .u8) _ _ _ ((d2) % 256) [.int .u8 ((d2) % 256)] from rfl) (Reps.one (show Kd.M (Kd.int .u8) _ _ _ ((d3) % 256) [.int .u8 ((d3) % 256)] from rfl) (Reps.none _ _))))
                              intro v430 w84 ho85 hb hg_ hnew_
                              clear hg_ hnew_
                              (first | rw [← Ny429.out] at ho85 | (simp only [Int.reduceToNat] at ho85; rw [← Ny429.out] at ho85))
                              have HO431 := As (Kd.R_lower (Kd.R_new' ho85 (Kd.R_lt (kR HO425.out))) (below_size (kB1 HB.out GE414.out)))
                              replace HO425 := As (Kd.R_elder' (kR HO425.out) (Kd.R_base ho85) hb)
                              replace BK414 := As (blk_below (kb BK414.out) hb)
                              replace HB := As (below_step (kB1 HB.out GE414.out) hb)
                              clear hb ho85
                              refine hK.out _ _ (cells_15 BK414.out) (fun hHeld => ?_)
                              clear hK K
                              refine nP ?_
                              exact nJ (hJ7_8_29 (v424, v430) _ ⟨hHeld, (by (with_reducible repeat (first | apply Kd.R_alloc | apply Kd.R_drewN | apply Kd.R_drew)); exact Kd.R_mono HO425.out (fun _ hk => hk.2)), (by (with_reducible repeat (first | apply Kd.R_alloc | apply Kd.R_drewN | apply Kd.R_drew)); exact Kd.R_mono HO431.out (fun _ hk => hk.2)), (kb BK414.out), (kB1 HB.out GE414.out)⟩)
                             skip
                             rintro v430 w84 ⟨hS_, h0_, h1_, h2_⟩
                             have n0_ : Aside0 (Kd.R (Kd.int .u8) 5 w84 w.heap.size (fun _ => True) v430 y429) := ⟨h0_⟩
                             have n1_ : Aside0 (w84.heap[gb414]? = some (.cells #[.int .i64 d0, .int .i64 d1, .int .i64 d2, .int .i64 d3, .bool d4, .bool d5, .int .i64 d6, .bool d7, .int .u64 d8, .int .u64 d9, .bool d10, .int .u64 d11, .int .u64 d12, .slice A0_13 l0_13.length c0_13, .string d14] 28 (0, 0))) := ⟨h1_⟩
                             have n2_ : Aside0 (Below w.heap.size w w84) := ⟨h2_⟩
                             clear BK414
                             clear HB
                             clear h0_ h1_ h2_
                             have HO431 := n0_
                             have BK414 := n1_
                             have HB := n2_
                             clear n0_ n1_ n2_
                             have hHeld : h15 w84 gb414 (.int .i64 d0) (.int .i64 d1) (.int .i64 d2) (.int .i64 d3) (.bool d4) (.bool d5) (.int .i64 d6) (.bool d7) (.int .u64 d8) (.int .u64 d9) (.bool d10) (.int .u64 d11) (.int .u64 d12) (.slice A0_13 l0_13.length c0_13) (.string d14) := hS_
                             refine norm_ (a' := ?_) ?_ ?_
                             rotate_left
                             ·simp only [putAll, Act.put, sA, sZ, sS]
                              rfl
                             refine two_ (i := 7) (j := 18) (Ni := some 104) (Nj := some 115) #[I, I, I, I, I, I, I, I, O, I, I, I, I, I, I, O, I, I, O, O, I, O, O, I, I, I, I, I, I, I, I, O, O] #[I, I, I, I, I, I, I, O, O, I, I, I, I, I, I, O, I, I, I, O, I, O, O, I, I, I, I, I, I, I, I, O, O] rfl rfl rfl rfl (two_of HT_.out (by kernel_rfl)) (by decide) (by decide) (fun K hK => ?_) (fun K hK => ?_)
                             ·skip
                              refine Kd.R_lit_step (Kd.int .u8) _ 5 rfl (N := 104) rfl (xs := ([(wrap64 (64 + (wrap64 (Int.tdiv (wrap64 (20 + (t422.size : Int))) 4)))) % 256, (d0) % 256] : List Int)) (inner := [.int .u8 ((wrap64 (64 + (wrap64 (Int.tdiv (wrap64 (20 + (t422.size : Int))) 4)))) % 256), .int .u8 ((d0) % 256)]) (ok := fun _ => True) (okp := fun _ => True) kG ?hp (fun _ hk => hk) trivial (Below.refl _ _) (Nat.le_refl _) (by simp) ?_; (case hp => exact (Reps.one (show Kd.M (Kd.int .u8) _ _ _ ((wrap64 (64 + (wrap64 (Int.tdiv (wrap64 (20 + (t422.size : Int))) 4)))) % 256) [.int .u8 ((wrap64 (64 + (wrap64 (Int.tdiv (wrap64 (20 + (t422.size : Int))) 4)))) % 256)] from rfl) (Reps.one (show Kd.M (Kd.int .u8) _ _ _ ((d0) % 256) [.int .u8 ((d0) % 256)] from rfl) (Reps.none _ _))))
                              intro v424 w85 ho86 hb hg_ hnew_
                              clear hg_ hnew_
                              (first | rw [← Ny423.out] at ho86 | (simp only [Int.reduceToNat] at ho86; rw [← Ny423.out] at ho86))
                              have HO425 := As (Kd.R_lower (Kd.R_new' ho86 (Kd.R_lt (kR HO431.out))) (below_size (kB1 HB.out GE414.out)))
                              replace HO431 := As (Kd.R_elder' (kR HO431.out) (Kd.R_base ho86) hb)
                              replace BK414 := As (blk_below (kb BK414.out) hb)
                              replace HB := As (below_step (kB1 HB.out GE414.out) hb)
                              clear hb ho86
                              refine hK.out _ _ (cells_15 BK414.out) (fun hHeld => ?_)
                              clear hK K
                              refine nP ?_
                              exact nJ (hJ7_14_29_30 (v424, v430) _ ⟨hHeld, (by (with_reducible repeat (first | apply Kd.R_alloc | apply Kd.R_drewN | apply Kd.R_drew)); exact Kd.R_mono HO425.out (fun _ hk => hk.2)), (by (with_reducible repeat (first | apply Kd.R_alloc | apply Kd.R_drewN | apply Kd.R_drew)); exact Kd.R_mono HO431.out (fun _ hk => hk.2)), (kb BK414.out), (kB1 HB.out GE414.out)⟩)
                             skip
                             refine goes_ Try.func44 (by kernel_rfl) rfl #[.int .i64 d1, .int .i64 2] (by rfl) rfl rfl kA ?_
                             with_reducible refine (intrusionref01_Put.calls kj57 d1 2 t427 _ A63.out).mono ?_
                             rintro e w85 ⟨rfl, hb⟩
                             refine ⟨_, rfl, ?_⟩
                             replace HO431 := As (Kd.R_below (kR HO431.out) hb)
                             replace BK414 := As (blk_below (kb BK414.out) hb)
                             replace HB := As (below_step (kB1 HB.out GE414.out) hb)
                             (try clear hb)
                             (try clear hb2)
                             (try clear hk)
                             (try clear hi)
                             refine hK.out _ _ (cells_15 BK414.out) (fun hHeld => ?_)
                             clear hK K
                             refine nP ?_
                             exact nJ (hJ14_18_29_30 (v430) _ ⟨hHeld, (kR HO431.out), (kb BK414.out), (kB1 HB.out GE414.out)⟩)
                            skip
                            rintro v430 w84 ⟨hS_, h0_, h1_, h2_⟩
                            have n0_ : Aside0 (Kd.R (Kd.int .u8) 5 w84 w.heap.size (fun _ => True) v430 y429) := ⟨h0_⟩
                            have n1_ : Aside0 (w84.heap[gb414]? = some (.cells #[.int .i64 d0, .int .i64 d1, .int .i64 d2, .int .i64 d3, .bool d4, .bool d5, .int .i64 d6, .bool d7, .int .u64 d8, .int .u64 d9, .bool d10, .int .u64 d11, .int .u64 d12, .slice A0_13 l0_13.length c0_13, .string d14] 28 (0, 0))) := ⟨h1_⟩
                            have n2_ : Aside0 (Below w.heap.size w w84) := ⟨h2_⟩
                            clear BK414
                            clear HB
                            clear h0_ h1_ h2_
                            have HO431 := n0_
                            have BK414 := n1_
                            have HB := n2_
                            clear n0_ n1_ n2_
                            have hHeld : h15 w84 gb414 (.int .i64 d0) (.int .i64 d1) (.int .i64 d2) (.int .i64 d3) (.bool d4) (.bool d5) (.int .i64 d6) (.bool d7) (.int .u64 d8) (.int .u64 d9) (.bool d10) (.int .u64 d11) (.int .u64 d12) (.slice A0_13 l0_13.length c0_13) (.string d14) := hS_
                            refine norm_ (a' := ?_) ?_ ?_
                            rotate_left
                            ·simp only [putAll, Act.put, sA, sZ, sS]
                             rfl
                            refine three_ (i := 7) (j := 21) (k := 30) (Ni := some 104) (Nj := some 118) (Nk := some 127) #[I, I, I, I, I, I, I, I, O, I, I, I, I, I, I, O, I, I, I, O, I, O, O, I, I, I, I, I, I, I, O, O, O] #[I, I, I, I, I, I, I, O, O, I, I, I, I, I, I, O, I, I, I, O, I, I, O, I, I, I, I, I, I, I, O, O, O] #[I, I, I, I, I, I, I, O, O, I, I, I, I, I, I, O, I, I, I, O, I, O, O, I, I, I, I, I, I, I, I, O, O] rfl rfl rfl rfl rfl rfl (three_of HT_.out (by kernel_rfl)) (by decide) (by decide) (by decide) (fun K hK => ?_) (fun K hK => ?_) (fun K hK => ?_)
                            ·skip
                             refine Kd.R_lit_step (Kd.int .u8) _ 5 rfl (N := 104) rfl (xs := ([(wrap64 (64 + (wrap64 (Int.tdiv (wrap64 (20 + (t422.size : Int))) 4)))) % 256, (d0) % 256] : List Int)) (inner := [.int .u8 ((wrap64 (64 + (wrap64 (Int.tdiv (wrap64 (20 + (t422.size : Int))) 4)))) % 256), .int .u8 ((d0) % 256)]) (ok := fun _ => True) (okp := fun _ => True) kG ?hp (fun _ hk => hk) trivial (Below.refl _ _) (Nat.le_refl _) (by simp) ?_; (case hp => exact (Reps.one (show Kd.M (Kd.int .u8) _ _ _ ((wrap64 (64 + (wrap64 (Int.tdiv (wrap64 (20 + (t422.size : Int))) 4)))) % 256) [.int .u8 ((wrap64 (64 + (wrap64 (Int.tdiv (wrap64 (20 + (t422.size : Int))) 4)))) % 256)] from rfl) (Reps.one (show Kd.M (Kd.int .u8) _ _ _ ((d0) % 256) [.int .u8 ((d0) % 256)] from rfl) (Reps.none _ _))))
                             intro v424 w85 ho86 hb hg_ hnew_
                             clear hg_ hnew_
                             (first | rw [← Ny423.out] at ho86 | (simp only [Int.reduceToNat] at ho86; rw [← Ny423.out] at ho86))
                             have HO425 := As (Kd.R_lower (Kd.R_new' ho86 (Kd.R_lt (kR HO431.out))) (below_size (kB1 HB.out GE414.out)))
                             replace HO431 := As (Kd.R_elder' (kR HO431.out) (Kd.R_base ho86) hb)
                             replace BK414 := As (blk_below (kb BK414.out) hb)
                             replace HB := As (below_step (kB1 HB.out GE414.out) hb)
                             clear hb ho86
                             refine hK.out _ _ (cells_15 BK414.out) (fun hHeld => ?_)
                             clear hK K
                             refine nP ?_
                             exact nJ (hJ7_14_18_29 (v424, v430) _ ⟨hHeld, (by (with_reducible repeat (first | apply Kd.R_alloc | apply Kd.R_drewN | apply Kd.R_drew)); exact Kd.R_mono HO425.out (fun _ hk => hk.2)), (by (with_reducible repeat (first | apply Kd.R_alloc | apply Kd.R_drewN | apply Kd.R_drew)); exact Kd.R_mono HO431.out (fun _ hk => hk.2)), (kb BK414.out), (kB1 HB.out GE414.out)⟩)
                            ·skip
                             refine goes_ Try.func44 (by kernel_rfl) rfl #[.int .i64 x6_57, .int .i64 2] (by rfl) rfl rfl kA ?_
                             with_reducible refine (intrusionref01_Put.calls kj57 x6_57 2 t428 _ A65.out).mono ?_
                             rintro e w85 ⟨rfl, hb⟩
                             refine ⟨_, rfl, ?_⟩
                             replace HO431 := As (Kd.R_below (kR HO431.out) hb)
                             replace BK414 := As (blk_below (kb BK414.out) hb)
                             replace HB := As (below_step (kB1 HB.out GE414.out) hb)
                             (try clear hb)
                             (try clear hb2)
                             (try clear hk)
                             (try clear hi)
                             refine hK.out _ _ (cells_15 BK414.out) (fun hHeld => ?_)
                             clear hK K
                             refine nP ?_
                             exact nJ (hJ14_18_21_29 (v430) _ ⟨hHeld, (kR HO431.out), (kb BK414.out), (kB1 HB.out GE414.out)⟩)
                            skip
                            have hcv85 := own_string (P := Try.prog) Try.underlying46 Try.underlying5 Try.underlying9 (Kd.own_of_R HO431.out)
                            refine value_ (w1 := ?_) (v := ?_) (by rfl) rfl ?_ ?_
                            rotate_left 2
                            ·go_simp
                             constructor
                             ·rfl
                             rfl
                            clear hcv85
                            refine hK.out _ _ (cells_15 BK414.out) (fun hHeld => ?_)
                            clear hK K
                            refine nP ?_
                            exact nJ (hJ14_18_29_30 (v430) _ ⟨hHeld, (kR HO431.out), (kb BK414.out), (kB1 HB.out GE414.out)⟩)
                           skip
                           rintro _ w83 ⟨hS_, h0_, h1_⟩
                           have n0_ : Aside0 (w83.heap[gb414]? = some (.cells #[.int .i64 d0, .int .i64 d1, .int .i64 d2, .int .i64 d3, .bool d4, .bool d5, .int .i64 d6, .bool d7, .int .u64 d8, .int .u64 d9, .bool d10, .int .u64 d11, .int .u64 d12, .slice A0_13 l0_13.length c0_13, .string d14] 28 (0, 0))) := ⟨h0_⟩
                           have n1_ : Aside0 (Below w.heap.size w w83) := ⟨h1_⟩
                           clear BK414
                           clear HB
                           clear h0_ h1_
                           have BK414 := n0_
                           have HB := n1_
                           clear n0_ n1_
                           have hHeld : h15 w83 gb414 (.int .i64 d0) (.int .i64 d1) (.int .i64 d2) (.int .i64 d3) (.bool d4) (.bool d5) (.int .i64 d6) (.bool d7) (.int .u64 d8) (.int .u64 d9) (.bool d10) (.int .u64 d11) (.int .u64 d12) (.slice A0_13 l0_13.length c0_13) (.string d14) := hS_
                           refine norm_ (a' := ?_) ?_ ?_
                           rotate_left
                           ·simp only [putAll, Act.put, sA, sZ, sS]
                            rfl
                           refine two_ (i := 7) (j := 29) (Ni := some 104) (Nj := some 126) #[I, I, I, I, I, I, I, I, O, I, I, I, I, I, I, O, I, I, I, O, I, I, O, I, I, I, I, I, I, O, O, O, O] #[I, I, I, I, I, I, I, O, O, I, I, I, I, I, I, O, I, I, I, O, I, I, O, I, I, I, I, I, I, I, O, O, O] rfl rfl rfl rfl (two_of HT_.out (by kernel_rfl)) (by decide) (by decide) (fun K hK => ?_) (fun K hK => ?_)
                           ·skip
                            refine Kd.R_lit_step (Kd.int .u8) _ 5 rfl (N := 104) rfl (xs := ([(wrap64 (64 + (wrap64 (Int.tdiv (wrap64 (20 + (t422.size : Int))) 4)))) % 256, (d0) % 256] : List Int)) (inner := [.int .u8 ((wrap64 (64 + (wrap64 (Int.tdiv (wrap64 (20 + (t422.size : Int))) 4)))) % 256), .int .u8 ((d0) % 256)]) (ok := fun _ => True) (okp := fun _ => True) kG ?hp (fun _ hk => hk) trivial (Below.refl _ _) (Nat.le_refl _) (by simp) ?_; (case hp => exact (Reps.one (show Kd.M (Kd.int .u8) _ _ _ ((wrap64 (64 + (wrap64 (Int.tdiv (wrap64 (20 + (t422.size : Int))) 4)))) % 256) [.int .u8 ((wrap64 (64 + (wrap64 (Int.tdiv (wrap64 (20 + (t422.size : Int))) 4)))) % 256)] from rfl) (Reps.one (show Kd.M (Kd.int .u8) _ _ _ ((d0) % 256) [.int .u8 ((d0) % 256)] from rfl) (Reps.none _ _))))
                            intro v424 w84 ho85 hb hg_ hnew_
                            clear hg_ hnew_
                            (first | rw [← Ny423.out] at ho85 | (simp only [Int.reduceToNat] at ho85; rw [← Ny423.out] at ho85))
                            have HO425 := As (Kd.R_lower ho85 (below_size (kB1 HB.out GE414.out)))
                            replace BK414 := As (blk_below (kb BK414.out) hb)
                            replace HB := As (below_step (kB1 HB.out GE414.out) hb)
                            clear hb ho85
                            refine hK.out _ _ (cells_15 BK414.out) (fun hHeld => ?_)
                            clear hK K
                            refine nP ?_
                            exact nJ (hJ7_14_18_21 (v424) _ ⟨hHeld, (kR HO425.out), (kb BK414.out), (kB1 HB.out GE414.out)⟩)
                           skip
                           refine Kd.R_lit_step (Kd.int .u8) _ 5 rfl (N := 126) rfl (xs := ([(d2) % 256, (d3) % 256] : List Int)) (inner := [.int .u8 ((d2) % 256), .int .u8 ((d3) % 256)]) (ok := fun _ => True) (okp := fun _ => True) kG ?hp (fun _ hk => hk) trivial (Below.refl _ _) (Nat.le_refl _) (by simp) ?_; (case hp => exact (Reps.one (show Kd.M (Kd.int .u8) _ _ _ ((d2) % 256) [.int .u8 ((d2) % 256)] from rfl) (Reps.one (show Kd.M (Kd.int .u8) _ _ _ ((d3) % 256) [.int .u8 ((d3) % 256)] from rfl) (Reps.none _ _))))
                           intro v430 w84 ho85 hb hg_ hnew_
                           clear hg_ hnew_
                           (first | rw [← Ny429.out] at ho85 | (simp only [Int.reduceToNat] at ho85; rw [← Ny429.out] at ho85))
                           have HO431 := As (Kd.R_lower ho85 (below_size (kB1 HB.out GE414.out)))
                           replace BK414 := As (blk_below (kb BK414.out) hb)
                           replace HB := As (below_step (kB1 HB.out GE414.out) hb)
                           clear hb ho85
                           refine hK.out _ _ (cells_15 BK414.out) (fun hHeld => ?_)
                           clear hK K
                           refine nP ?_
                           exact nJ (hJ14_18_21_29 (v430) _ ⟨hHeld, (kR HO431.out), (kb BK414.out), (kB1 HB.out GE414.out)⟩)
                          skip
                          rintro ⟨v424, v430⟩ w85 ⟨hS_, h0_, h1_, h2_, h3_⟩
                          have n0_ : Aside0 (Kd.R (Kd.int .u8) 5 w85 w.heap.size (fun k_ => some k_ ≠ (v430 : Value).ownBlock) v424 y423) := ⟨h0_⟩
                          have n1_ : Aside0 (Kd.R (Kd.int .u8) 5 w85 w.heap.size (fun k_ => some k_ ≠ (v424 : Value).ownBlock) v430 y429) := ⟨h1_⟩
                          have n2_ : Aside0 (w85.heap[gb414]? = some (.cells #[.int .i64 d0, .int .i64 d1, .int .i64 d2, .int .i64 d3, .bool d4, .bool d5, .int .i64 d6, .bool d7, .int .u64 d8, .int .u64 d9, .bool d10, .int .u64 d11, .int .u64 d12, .slice A0_13 l0_13.length c0_13, .string d14] 28 (0, 0))) := ⟨h2_⟩
                          have n3_ : Aside0 (Below w.heap.size w w85) := ⟨h3_⟩
                          clear BK414
                          clear HB
                          clear h0_ h1_ h2_ h3_
                          have HO425 := n0_
                          have HO431 := n1_
                          have BK414 := n2_
                          have HB := n3_
                          clear n0_ n1_ n2_ n3_
                          have hHeld : h15 w85 gb414 (.int .i64 d0) (.int .i64 d1) (.int .i64 d2) (.int .i64 d3) (.bool d4) (.bool d5) (.int .i64 d6) (.bool d7) (.int .u64 d8) (.int .u64 d9) (.bool d10) (.int .u64 d11) (.int .u64 d12) (.slice A0_13 l0_13.length c0_13) (.string d14) := hS_
                          refine norm_ (a' := ?_) ?_ ?_
                          rotate_left
                          ·simp only [putAll, Act.put, sA, sZ, sS]
                           rfl
                          refine two_ (i := 8) (j := 14) (Ni := some 105) (Nj := some 111) #[I, I, I, I, I, I, I, I, I, I, I, I, I, I, O, O, I, I, O, O, I, O, O, I, I, I, I, I, I, I, I, O, O] #[I, I, I, I, I, I, I, I, O, I, I, I, I, I, I, O, I, I, O, O, I, O, O, I, I, I, I, I, I, I, I, O, O] rfl rfl rfl rfl (two_of HT_.out (by kernel_rfl)) (by decide) (by decide) (fun K hK => ?_) (fun K hK => ?_)
                          ·skip
                           have hcv86 := own_string (P := Try.prog) Try.underlying46 Try.underlying5 Try.underlying9 (Kd.own_of_R HO425.out)
                           refine value_ (w1 := ?_) (v := ?_) (by rfl) rfl ?_ ?_
                           rotate_left 2
                           ·go_simp
                            constructor
                            ·rfl
                            rfl
                           clear hcv86
                           refine hK.out _ _ (cells_15 BK414.out) (fun hHeld => ?_)
                           clear hK K
                           refine nP ?_
                           exact nJ (hJ7_8_29_30 (v424, v430) _ ⟨hHeld, (kR HO425.out), (kR HO431.out), (kb BK414.out), (kB1 HB.out GE414.out)⟩)
                          skip
                          refine goes_ Try.func44 (by kernel_rfl) rfl #[.int .i64 (wrap64 ((wrap64 (20 + (t422.size : Int))) + (d14.size : Int))), .int .i64 2] (by rfl) rfl rfl kA ?_
                          with_reducible refine (intrusionref01_Put.calls kj57 (wrap64 ((wrap64 (20 + (t422.size : Int))) + (d14.size : Int))) 2 t426 _ A61.out).mono ?_
                          rintro e w86 ⟨rfl, hb⟩
                          refine ⟨_, rfl, ?_⟩
                          replace HO425 := As (Kd.R_below (kR HO425.out) hb)
                          replace HO431 := As (Kd.R_below (kR HO431.out) hb)
                          replace BK414 := As (blk_below (kb BK414.out) hb)
                          replace HB := As (below_step (kB1 HB.out GE414.out) hb)
                          (try clear hb)
                          (try clear hb2)
                          (try clear hk)
                          (try clear hi)
                          refine hK.out _ _ (cells_15 BK414.out) (fun hHeld => ?_)
                          clear hK K
                          refine nP ?_
                          exact nJ (hJ7_14_29_30 (v424, v430) _ ⟨hHeld, (kR HO425.out), (kR HO431.out), (kb BK414.out), (kB1 HB.out GE414.out)⟩)
                         skip
                         rintro ⟨v424, v430⟩ w85 ⟨hS_, h0_, h1_, h2_, h3_⟩
                         have n0_ : Aside0 (Kd.R (Kd.int .u8) 5 w85 w.heap.size (fun k_ => some k_ ≠ (v430 : Value).ownBlock) v424 y423) := ⟨h0_⟩
                         have n1_ : Aside0 (Kd.R (Kd.int .u8) 5 w85 w.heap.size (fun k_ => some k_ ≠ (v424 : Value).ownBlock) v430 y429) := ⟨h1_⟩
                         have n2_ : Aside0 (w85.heap[gb414]? = some (.cells #[.int .i64 d0, .int .i64 d1, .int .i64 d2, .int .i64 d3, .bool d4, .bool d5, .int .i64 d6, .bool d7, .int .u64 d8, .int .u64 d9, .bool d10, .int .u64 d11, .int .u64 d12, .slice A0_13 l0_13.length c0_13, .string d14] 28 (0, 0))) := ⟨h2_⟩
                         have n3_ : Aside0 (Below w.heap.size w w85) := ⟨h3_⟩
                         clear BK414
                         clear HB
                         clear h0_ h1_ h2_ h3_
                         have HO425 := n0_
                         have HO431 := n1_
                         have BK414 := n2_
                         have HB := n3_
                         clear n0_ n1_ n2_ n3_
                         have hHeld : h15 w85 gb414 (.int .i64 d0) (.int .i64 d1) (.int .i64 d2) (.int .i64 d3) (.bool d4) (.bool d5) (.int .i64 d6) (.bool d7) (.int .u64 d8) (.int .u64 d9) (.bool d10) (.int .u64 d11) (.int .u64 d12) (.slice A0_13 l0_13.length c0_13) (.string d14) := hS_
                         refine norm_ (a' := ?_) ?_ ?_
                         rotate_left
                         ·simp only [putAll, Act.put, sA, sZ, sS]
                          rfl
                         refine three_ (i := 8) (j := 18) (k := 30) (Ni := some 105) (Nj := some 115) (Nk := some 127) #[I, I, I, I, I, I, I, I, I, I, I, I, I, I, I, O, I, I, O, O, I, O, O, I, I, I, I, I, I, I, O, O, O] #[I, I, I, I, I, I, I, I, O, I, I, I, I, I, I, O, I, I, I, O, I, O, O, I, I, I, I, I, I, I, O, O, O] #[I, I, I, I, I, I, I, I, O, I, I, I, I, I, I, O, I, I, O, O, I, O, O, I, I, I, I, I, I, I, I, O, O] rfl rfl rfl rfl rfl rfl (three_of HT_.out (by kernel_rfl)) (by decide) (by decide) (by decide) (fun K hK => ?_) (fun K hK => ?_) (fun K hK => ?_)
                         ·skip
                          have hcv86 := own_string (P := Try.prog) Try.underlying46 Try.underlying5 Try.underlying9 (Kd.own_of_R HO425.out)
                          refine value_ (w1 := ?_) (v := ?_) (by rfl) rfl ?_ ?_
                          rotate_left 2
                          ·go_simp
                           constructor
                           ·rfl
                           rfl
                          clear hcv86
                          refine hK.out _ _ (cells_15 BK414.out) (fun hHeld => ?_)
                          clear hK K
                          refine nP ?_
                          refine kP 15 112 #[I, I, I, I, I, I, I, I, I, I, I, I, I, I, I, I, I, I, O, O, I, O, O, I, I, I, I, I, I, I, O, O, O] ?_ (any_of HT_.out (by kernel_rfl))
                          exact nJ (hJ7_8_14_29 (v424, v430) _ ⟨hHeld, (kR HO425.out), (kR HO431.out), (kb BK414.out), (kB1 HB.out GE414.out)⟩)
                         ·skip
                          refine goes_ Try.func44 (by kernel_rfl) rfl #[.int .i64 d1, .int .i64 2] (by rfl) rfl rfl kA ?_
                          with_reducible refine (intrusionref01_Put.calls kj57 d1 2 t427 _ A63.out).mono ?_
                          rintro e w86 ⟨rfl, hb⟩
                          refine ⟨_, rfl, ?_⟩
                          replace HO425 := As (Kd.R_below (kR HO425.out) hb)
                          replace HO431 := As (Kd.R_below (kR HO431.out) hb)
                          replace BK414 := As (blk_below (kb BK414.out) hb)
                          replace HB := As (below_step (kB1 HB.out GE414.out) hb)
                          (try clear hb)
                          (try clear hb2)
                          (try clear hk)
                          (try clear hi)
                          refine hK.out _ _ (cells_15 BK414.out) (fun hHeld => ?_)
                          clear hK K
                          refine nP ?_
                          exact nJ (hJ7_14_18_29 (v424, v430) _ ⟨hHeld, (kR HO425.out), (kR HO431.out), (kb BK414.out), (kB1 HB.out GE414.out)⟩)
                         skip
                         have hcv86 := own_string (P := Try.prog) Try.underlying46 Try.underlying5 Try.underlying9 (Kd.own_of_R HO431.out)
                         refine value_ (w1 := ?_) (v := ?_) (by rfl) rfl ?_ ?_
                         rotate_left 2
                         ·go_simp
                          constructor
                          ·rfl
                          rfl
                         clear hcv86
                         refine hK.out _ _ (cells_15 BK414.out) (fun hHeld => ?_)
                         clear hK K
                         refine nP ?_
                         exact nJ (hJ7_14_29_30 (v424, v430) _ ⟨hHeld, (kR HO425.out), (kR HO431.out), (kb BK414.out), (kB1 HB.out GE414.out)⟩)
                        skip
                        rintro v424 w84 ⟨hS_, h0_, h1_, h2_⟩
                        have n0_ : Aside0 (Kd.R (Kd.int .u8) 5 w84 w.heap.size (fun _ => True) v424 y423) := ⟨h0_⟩
                        have n1_ : Aside0 (w84.heap[gb414]? = some (.cells #[.int .i64 d0, .int .i64 d1, .int .i64 d2, .int .i64 d3, .bool d4, .bool d5, .int .i64 d6, .bool d7, .int .u64 d8, .int .u64 d9, .bool d10, .int .u64 d11, .int .u64 d12, .slice A0_13 l0_13.length c0_13, .string d14] 28 (0, 0))) := ⟨h1_⟩
                        have n2_ : Aside0 (Below w.heap.size w w84) := ⟨h2_⟩
                        clear BK414
                        clear HB
                        clear h0_ h1_ h2_
                        have HO425 := n0_
                        have BK414 := n1_
                        have HB := n2_
                        clear n0_ n1_ n2_
                        have hHeld : h15 w84 gb414 (.int .i64 d0) (.int .i64 d1) (.int .i64 d2) (.int .i64 d3) (.bool d4) (.bool d5) (.int .i64 d6) (.bool d7) (.int .u64 d8) (.int .u64 d9) (.bool d10) (.int .u64 d11) (.int .u64 d12) (.slice A0_13 l0_13.length c0_13) (.string d14) := hS_
                        refine norm_ (a' := ?_) ?_ ?_
                        rotate_left
                        ·simp only [putAll, Act.put, sA, sZ, sS]
                         rfl
                        refine three_ (i := 8) (j := 21) (k := 29) (Ni := some 105) (Nj := some 118) (Nk := some 126) #[I, I, I, I, I, I, I, I, I, I, I, I, I, I, I, O, I, I, I, O, I, O, O, I, I, I, I, I, I, O, O, O, O] #[I, I, I, I, I, I, I, I, O, I, I, I, I, I, I, O, I, I, I, O, I, I, O, I, I, I, I, I, I, O, O, O, O] #[I, I, I, I, I, I, I, I, O, I, I, I, I, I, I, O, I, I, I, O, I, O, O, I, I, I, I, I, I, I, O, O, O] rfl rfl rfl rfl rfl rfl (three_of HT_.out (by kernel_rfl)) (by decide) (by decide) (by decide) (fun K hK => ?_) (fun K hK => ?_) (fun K hK => ?_)
                        ·skip
                         have hcv85 := own_string (P := Try.prog) Try.underlying46 Try.underlying5 Try.underlying9 (Kd.own_of_R HO425.out)
                         refine value_ (w1 := ?_) (v := ?_) (by rfl) rfl ?_ ?_
                         rotate_left 2
                         ·go_simp
                          constructor
                          ·rfl
                          rfl
                         clear hcv85
                         refine hK.out _ _ (cells_15 BK414.out) (fun hHeld => ?_)
                         clear hK K
                         refine nP ?_
                         refine kP 15 112 #[I, I, I, I, I, I, I, I, I, I, I, I, I, I, I, I, I, I, I, O, I, O, O, I, I, I, I, I, I, O, O, O, O] ?_ (any_of HT_.out (by kernel_rfl))
                         refine kP 19 116 #[I, I, I, I, I, I, I, I, I, I, I, I, I, I, I, I, I, I, I, I, I, O, O, I, I, I, I, I, I, O, O, O, O] ?_ (any_of HT_.out (by kernel_rfl))
                         exact nJ (hJ7_8_14_18 (v424) _ ⟨hHeld, (kR HO425.out), (kb BK414.out), (kB1 HB.out GE414.out)⟩)
                        ·skip
                         refine goes_ Try.func44 (by kernel_rfl) rfl #[.int .i64 x6_57, .int .i64 2] (by rfl) rfl rfl kA ?_
                         with_reducible refine (intrusionref01_Put.calls kj57 x6_57 2 t428 _ A65.out).mono ?_
                         rintro e w85 ⟨rfl, hb⟩
                         refine ⟨_, rfl, ?_⟩
                         replace HO425 := As (Kd.R_below (kR HO425.out) hb)
                         replace BK414 := As (blk_below (kb BK414.out) hb)
                         replace HB := As (below_step (kB1 HB.out GE414.out) hb)
                         (try clear hb)
                         (try clear hb2)
                         (try clear hk)
                         (try clear hi)
                         refine hK.out _ _ (cells_15 BK414.out) (fun hHeld => ?_)
                         clear hK K
                         refine nP ?_
                         exact nJ (hJ7_14_18_21 (v424) _ ⟨hHeld, (kR HO425.out), (kb BK414.out), (kB1 HB.out GE414.out)⟩)
                        skip
                        refine Kd.R_lit_step (Kd.int .u8) _ 5 rfl (N := 126) rfl (xs := ([(d2) % 256, (d3) % 256] : List Int)) (inner := [.int .u8 ((d2) % 256), .int .u8 ((d3) % 256)]) (ok := fun _ => True) (okp := fun _ => True) kG ?hp (fun _ hk => hk) trivial (Below.refl _ _) (Nat.le_refl _) (by simp) ?_; (case hp => exact (Reps.one (show Kd.M (Kd.int .u8) _ _ _ ((d2) % 256) [.int .u8 ((d2) % 256)] from rfl) (Reps.one (show Kd.M (Kd.int .u8) _ _ _ ((d3) % 256) [.int .u8 ((d3) % 256)] from rfl) (Reps.none _ _))))
                        intro v430 w85 ho86 hb hg_ hnew_
                        clear hg_ hnew_
                        (first | rw [← Ny429.out] at ho86 | (simp only [Int.reduceToNat] at ho86; rw [← Ny429.out] at ho86))
                        have HO431 := As (Kd.R_lower (Kd.R_new' ho86 (Kd.R_lt (kR HO425.out))) (below_size (kB1 HB.out GE414.out)))
                        replace HO425 := As (Kd.R_elder' (kR HO425.out) (Kd.R_base ho86) hb)
                        replace BK414 := As (blk_below (kb BK414.out) hb)
                        replace HB := As (below_step (kB1 HB.out GE414.out) hb)
                        clear hb ho86
                        refine hK.out _ _ (cells_15 BK414.out) (fun hHeld => ?_)
                        clear hK K
                        refine nP ?_
                        exact nJ (hJ7_14_18_29 (v424, v430) _ ⟨hHeld, (by (with_reducible repeat (first | apply Kd.R_alloc | apply Kd.R_drewN | apply Kd.R_drew)); exact Kd.R_mono HO425.out (fun _ hk => hk.2)), (by (with_reducible repeat (first | apply Kd.R_alloc | apply Kd.R_drewN | apply Kd.R_drew)); exact Kd.R_mono HO431.out (fun _ hk => hk.2)), (kb BK414.out), (kB1 HB.out GE414.out)⟩)
                       skip
                       rintro ⟨v424, v430⟩ w85 ⟨hS_, h0_, h1_, h2_, h3_⟩
                       have n0_ : Aside0 (Kd.R (Kd.int .u8) 5 w85 w.heap.size (fun k_ => some k_ ≠ (v430 : Value).ownBlock) v424 y423) := ⟨h0_⟩
                       have n1_ : Aside0 (Kd.R (Kd.int .u8) 5 w85 w.heap.size (fun k_ => some k_ ≠ (v424 : Value).ownBlock) v430 y429) := ⟨h1_⟩
                       have n2_ : Aside0 (w85.heap[gb414]? = some (.cells #[.int .i64 d0, .int .i64 d1, .int .i64 d2, .int .i64 d3, .bool d4, .bool d5, .int .i64 d6, .bool d7, .int .u64 d8, .int .u64 d9, .bool d10, .int .u64 d11, .int .u64 d12, .slice A0_13 l0_13.length c0_13, .string d14] 28 (0, 0))) := ⟨h2_⟩
                       have n3_ : Aside0 (Below w.heap.size w w85) := ⟨h3_⟩
                       clear BK414
                       clear HB
                       clear h0_ h1_ h2_ h3_
                       have HO425 := n0_
                       have HO431 := n1_
                       have BK414 := n2_
                       have HB := n3_
                       clear n0_ n1_ n2_ n3_
                       have hHeld : h15 w85 gb414 (.int .i64 d0) (.int .i64 d1) (.int .i64 d2) (.int .i64 d3) (.bool d4) (.bool d5) (.int .i64 d6) (.bool d7) (.int .u64 d8) (.int .u64 d9) (.bool d10) (.int .u64 d11) (.int .u64 d12) (.slice A0_13 l0_13.length c0_13) (.string d14) := hS_
                       refine norm_ (a' := ?_) ?_ ?_
                       rotate_left
                       ·simp only [putAll, Act.put, sA, sZ, sS]
                        rfl
                       refine two_ (i := 14) (j := 30) (Ni := some 111) (Nj := some 127) #[I, I, I, I, I, I, I, I, I, I, I, I, I, I, I, O, I, I, O, O, I, O, O, I, I, I, I, I, I, I, O, O, O] #[I, I, I, I, I, I, I, I, I, I, I, I, I, I, O, O, I, I, O, O, I, O, O, I, I, I, I, I, I, I, I, O, O] rfl rfl rfl rfl (two_of HT_.out (by kernel_rfl)) (by decide) (by decide) (fun K hK => ?_) (fun K hK => ?_)
                       ·skip
                        refine goes_ Try.func44 (by kernel_rfl) rfl #[.int .i64 (wrap64 ((wrap64 (20 + (t422.size : Int))) + (d14.size : Int))), .int .i64 2] (by rfl) rfl rfl kA ?_
                        with_reducible refine (intrusionref01_Put.calls kj57 (wrap64 ((wrap64 (20 + (t422.size : Int))) + (d14.size : Int))) 2 t426 _ A61.out).mono ?_
                        rintro e w86 ⟨rfl, hb⟩
                        refine ⟨_, rfl, ?_⟩
                        replace HO425 := As (Kd.R_below (kR HO425.out) hb)
                        replace HO431 := As (Kd.R_below (kR HO431.out) hb)
                        replace BK414 := As (blk_below (kb BK414.out) hb)
                        replace HB := As (below_step (kB1 HB.out GE414.out) hb)
                        (try clear hb)
                        (try clear hb2)
                        (try clear hk)
                        (try clear hi)
                        refine hK.out _ _ (cells_15 BK414.out) (fun hHeld => ?_)
                        clear hK K
                        refine nP ?_
                        refine kP 15 112 #[I, I, I, I, I, I, I, I, I, I, I, I, I, I, I, I, I, I, O, O, I, O, O, I, I, I, I, I, I, I, O, O, O] ?_ (any_of HT_.out (by kernel_rfl))
                        exact nJ (hJ7_8_14_29 (v424, v430) _ ⟨hHeld, (kR HO425.out), (kR HO431.out), (kb BK414.out), (kB1 HB.out GE414.out)⟩)
                       skip
                       have hcv86 := own_string (P := Try.prog) Try.underlying46 Try.underlying5 Try.underlying9 (Kd.own_of_R HO431.out)
                       refine value_ (w1 := ?_) (v := ?_) (by rfl) rfl ?_ ?_
                       rotate_left 2
                       ·go_simp
                        constructor
                        ·rfl
                        rfl
                       clear hcv86
                       refine hK.out _ _ (cells_15 BK414.out) (fun hHeld => ?_)
                       clear hK K
                       refine nP ?_
                       exact nJ (hJ7_8_29_30 (v424, v430) _ ⟨hHeld, (kR HO425.out), (kR HO431.out), (kb BK414.out), (kB1 HB.out GE414.out)⟩)
                      skip
                      rintro v424 w84 ⟨hS_, h0_, h1_, h2_⟩
                      have n0_ : Aside0 (Kd.R (Kd.int .u8) 5 w84 w.heap.size (fun _ => True) v424 y423) := ⟨h0_⟩
                      have n1_ : Aside0 (w84.heap[gb414]? = some (.cells #[.int .i64 d0, .int .i64 d1, .int .i64 d2, .int .i64 d3, .bool d4, .bool d5, .int .i64 d6, .bool d7, .int .u64 d8, .int .u64 d9, .bool d10, .int .u64 d11, .int .u64 d12, .slice A0_13 l0_13.length c0_13, .string d14] 28 (0, 0))) := ⟨h1_⟩
                      have n2_ : Aside0 (Below w.heap.size w w84) := ⟨h2_⟩
                      clear BK414
                      clear HB
                      clear h0_ h1_ h2_
                      have HO425 := n0_
                      have BK414 := n1_
                      have HB := n2_
                      clear n0_ n1_ n2_
                      have hHeld : h15 w84 gb414 (.int .i64 d0) (.int .i64 d1) (.int .i64 d2) (.int .i64 d3) (.bool d4) (.bool d5) (.int .i64 d6) (.bool d7) (.int .u64 d8) (.int .u64 d9) (.bool d10) (.int .u64 d11) (.int .u64 d12) (.slice A0_13 l0_13.length c0_13) (.string d14) := hS_
                      refine norm_ (a' := ?_) ?_ ?_
                      rotate_left
                      ·simp only [putAll, Act.put, sA, sZ, sS]
                       rfl
                      refine two_ (i := 18) (j := 29) (Ni := some 115) (Nj := some 126) #[I, I, I, I, I, I, I, I, I, I, I, I, I, I, I, I, I, I, I, O, I, O, O, I, I, I, I, I, I, O, O, O, O] #[I, I, I, I, I, I, I, I, I, I, I, I, I, I, I, I, I, I, O, O, I, O, O, I, I, I, I, I, I, I, O, O, O] rfl rfl rfl rfl (two_of HT_.out (by kernel_rfl)) (by decide) (by decide) (fun K hK => ?_) (fun K hK => ?_)
                      ·skip
                       refine goes_ Try.func44 (by kernel_rfl) rfl #[.int .i64 d1, .int .i64 2] (by rfl) rfl rfl kA ?_
                       with_reducible refine (intrusionref01_Put.calls kj57 d1 2 t427 _ A63.out).mono ?_
                       rintro e w85 ⟨rfl, hb⟩
                       refine ⟨_, rfl, ?_⟩
                       replace HO425 := As (Kd.R_below (kR HO425.out) hb)
                       replace BK414 := As (blk_below (kb BK414.out) hb)
                       replace HB := As (below_step (kB1 HB.out GE414.out) hb)
                       (try clear hb)
                       (try clear hb2)
                       (try clear hk)
                       (try clear hi)
                       refine hK.out _ _ (cells_15 BK414.out) (fun hHeld => ?_)
                       clear hK K
                       refine nP ?_
                       refine kP 19 116 #[I, I, I, I, I, I, I, I, I, I, I, I, I, I, I, I, I, I, I, I, I, O, O, I, I, I, I, I, I, O, O, O, O] ?_ (any_of HT_.out (by kernel_rfl))
                       exact nJ (hJ7_8_14_18 (v424) _ ⟨hHeld, (kR HO425.out), (kb BK414.out), (kB1 HB.out GE414.out)⟩)
                      skip
                      refine Kd.R_lit_step (Kd.int .u8) _ 5 rfl (N := 126) rfl (xs := ([(d2) % 256, (d3) % 256] : List Int)) (inner := [.int .u8 ((d2) % 256), .int .u8 ((d3) % 256)]) (ok := fun _ => True) (okp := fun _ => True) kG ?hp (fun _ hk => hk) trivial (Below.refl _ _) (Nat.le_refl _) (by simp) ?_; (case hp => exact (Reps.one (show Kd.M (Kd.int .u8) _ _ _ ((d2) % 256) [.int .u8 ((d2) % 256)] from rfl) (Reps.one (show Kd.M (Kd.int .u8) _ _ _ ((d3) % 256) [.int .u8 ((d3) % 256)] from rfl) (Reps.none _ _))))
                      intro v430 w85 ho86 hb hg_ hnew_
                      clear hg_ hnew_
                      (first | rw [← Ny429.out] at ho86 | (simp only [Int.reduceToNat] at ho86; rw [← Ny429.out] at ho86))
                      have HO431 := As (Kd.R_lower (Kd.R_new' ho86 (Kd.R_lt (kR HO425.out))) (below_size (kB1 HB.out GE414.out)))
                      replace HO425 := As (Kd.R_elder' (kR HO425.out) (Kd.R_base ho86) hb)
                      replace BK414 := As (blk_below (kb BK414.out) hb)
                      replace HB := As (below_step (kB1 HB.out GE414.out) hb)
                      clear hb ho86
                      refine hK.out _ _ (cells_15 BK414.out) (fun hHeld => ?_)
                      clear hK K
                      refine nP ?_
                      exact nJ (hJ7_8_14_29 (v424, v430) _ ⟨hHeld, (by (with_reducible repeat (first | apply Kd.R_alloc | apply Kd.R_drewN | apply Kd.R_drew)); exact Kd.R_mono HO425.out (fun _ hk => hk.2)), (by (with_reducible repeat (first | apply Kd.R_alloc | apply Kd.R_drewN | apply Kd.R_drew)); exact Kd.R_mono HO431.out (fun _ hk => hk.2)), (kb BK414.out), (kB1 HB.out GE414.out)⟩)
                     skip
                     rintro v430 w85 ⟨hS_, h0_, h1_, h2_⟩
                     have n0_ : Aside0 (Kd.R (Kd.int .u8) 5 w85 w.heap.size (fun _ => True) v430 y429) := ⟨h0_⟩
                     have n1_ : Aside0 (w85.heap[gb414]? = some (.cells #[.int .i64 d0, .int .i64 d1, .int .i64 d2, .int .i64 d3, .bool d4, .bool d5, .int .i64 d6, .bool d7, .int .u64 d8, .int .u64 d9, .bool d10, .int .u64 d11, .int .u64 d12, .slice A0_13 l0_13.length c0_13, .string d14] 28 (0, 0))) := ⟨h1_⟩
                     have n2_ : Aside0 (Below w.heap.size w w85) := ⟨h2_⟩
                     clear BK414
                     clear HB
                     clear h0_ h1_ h2_
                     have HO431 := n0_
                     have BK414 := n1_
                     have HB := n2_
                     clear n0_ n1_ n2_
                     have hHeld : h15 w85 gb414 (.int .i64 d0) (.int .i64 d1) (.int .i64 d2) (.int .i64 d3) (.bool d4) (.bool d5) (.int .i64 d6) (.bool d7) (.int .u64 d8) (.int .u64 d9) (.bool d10) (.int .u64 d11) (.int .u64 d12) (.slice A0_13 l0_13.length c0_13) (.string d14) := hS_
                     refine norm_ (a' := ?_) ?_ ?_
                     rotate_left
                     ·simp only [putAll, Act.put, sA, sZ, sS]
                      rfl
                     refine two_ (i := 7) (j := 21) (Ni := some 104) (Nj := some 118) #[I, I, I, I, I, I, I, I, O, I, I, I, I, I, I, O, I, I, I, O, I, O, O, I, I, I, I, I, I, I, I, O, O] #[I, I, I, I, I, I, I, O, O, I, I, I, I, I, I, O, I, I, I, O, I, I, O, I, I, I, I, I, I, I, I, O, O] rfl rfl rfl rfl (two_of HT_.out (by kernel_rfl)) (by decide) (by decide) (fun K hK => ?_) (fun K hK => ?_)
                     ·skip
                      refine Kd.R_lit_step (Kd.int .u8) _ 5 rfl (N := 104) rfl (xs := ([(wrap64 (64 + (wrap64 (Int.tdiv (wrap64 (20 + (t422.size : Int))) 4)))) % 256, (d0) % 256] : List Int)) (inner := [.int .u8 ((wrap64 (64 + (wrap64 (Int.tdiv (wrap64 (20 + (t422.size : Int))) 4)))) % 256), .int .u8 ((d0) % 256)]) (ok := fun _ => True) (okp := fun _ => True) kG ?hp (fun _ hk => hk) trivial (Below.refl _ _) (Nat.le_refl _) (by simp) ?_; (case hp => exact (Reps.one (show Kd.M (Kd.int .u8) _ _ _ ((wrap64 (64 + (wrap64 (Int.tdiv (wrap64 (20 + (t422.size : Int))) 4)))) % 256) [.int .u8 ((wrap64 (64 + (wrap64 (Int.tdiv (wrap64 (20 + (t422.size : Int))) 4)))) % 256)] from rfl) (Reps.one (show Kd.M (Kd.int .u8) _ _ _ ((d0) % 256) [.int .u8 ((d0) % 256)] from rfl) (Reps.none _ _))))
                      intro v424 w86 ho87 hb hg_ hnew_
                      clear hg_ hnew_
                      (first | rw [← Ny423.out] at ho87 | (simp only [Int.reduceToNat] at ho87; rw [← Ny423.out] at ho87))
                      have HO425 := As (Kd.R_lower (Kd.R_new' ho87 (Kd.R_lt (kR HO431.out))) (below_size (kB1 HB.out GE414.out)))
                      replace HO431 := As (Kd.R_elder' (kR HO431.out) (Kd.R_base ho87) hb)
                      replace BK414 := As (blk_below (kb BK414.out) hb)
                      replace HB := As (below_step (kB1 HB.out GE414.out) hb)
                      clear hb ho87
                      refine hK.out _ _ (cells_15 BK414.out) (fun hHeld => ?_)
                      clear hK K
                      refine nP ?_
                      exact nJ (hJ7_14_18_29_30 (v424, v430) _ ⟨hHeld, (by (with_reducible repeat (first | apply Kd.R_alloc | apply Kd.R_drewN | apply Kd.R_drew)); exact Kd.R_mono HO425.out (fun _ hk => hk.2)), (by (with_reducible repeat (first | apply Kd.R_alloc | apply Kd.R_drewN | apply Kd.R_drew)); exact Kd.R_mono HO431.out (fun _ hk => hk.2)), (kb BK414.out), (kB1 HB.out GE414.out)⟩)
                     skip
                     refine goes_ Try.func44 (by kernel_rfl) rfl #[.int .i64 x6_57, .int .i64 2] (by rfl) rfl rfl kA ?_
                     with_reducible refine (intrusionref01_Put.calls kj57 x6_57 2 t428 _ A65.out).mono ?_
                     rintro e w86 ⟨rfl, hb⟩
                     refine ⟨_, rfl, ?_⟩
                     replace HO431 := As (Kd.R_below (kR HO431.out) hb)
                     replace BK414 := As (blk_below (kb BK414.out) hb)
                     replace HB := As (below_step (kB1 HB.out GE414.out) hb)
                     (try clear hb)
                     (try clear hb2)
                     (try clear hk)
                     (try clear hi)
                     refine hK.out _ _ (cells_15 BK414.out) (fun hHeld => ?_)
                     clear hK K
                     refine nP ?_
                     exact nJ (hJ14_18_21_29_30 (v430) _ ⟨hHeld, (kR HO431.out), (kb BK414.out), (kB1 HB.out GE414.out)⟩)
                    skip
                    rintro v430 w85 ⟨hS_, h0_, h1_, h2_⟩
                    have n0_ : Aside0 (Kd.R (Kd.int .u8) 5 w85 w.heap.size (fun _ => True) v430 y429) := ⟨h0_⟩
                    have n1_ : Aside0 (w85.heap[gb414]? = some (.cells #[.int .i64 d0, .int .i64 d1, .int .i64 d2, .int .i64 d3, .bool d4, .bool d5, .int .i64 d6, .bool d7, .int .u64 d8, .int .u64 d9, .bool d10, .int .u64 d11, .int .u64 d12, .slice A0_13 l0_13.length c0_13, .string d14] 28 (0, 0))) := ⟨h1_⟩
                    have n2_ : Aside0 (Below w.heap.size w w85) := ⟨h2_⟩
                    clear BK414
                    clear HB
                    clear h0_ h1_ h2_
                    have HO431 := n0_
                    have BK414 := n1_
                    have HB := n2_
                    clear n0_ n1_ n2_
                    have hHeld : h15 w85 gb414 (.int .i64 d0) (.int .i64 d1) (.int .i64 d2) (.int .i64 d3) (.bool d4) (.bool d5) (.int .i64 d6) (.bool d7) (.int .u64 d8) (.int .u64 d9) (.bool d10) (.int .u64 d11) (.int .u64 d12) (.slice A0_13 l0_13.length c0_13) (.string d14) := hS_
                    refine norm_ (a' := ?_) ?_ ?_
                    rotate_left
                    ·simp only [putAll, Act.put, sA, sZ, sS]
                     rfl
                    refine two_ (i := 7) (j := 30) (Ni := some 104) (Nj := some 127) #[I, I, I, I, I, I, I, I, O, I, I, I, I, I, I, O, I, I, I, O, I, I, O, I, I, I, I, I, I, I, O, O, O] #[I, I, I, I, I, I, I, O, O, I, I, I, I, I, I, O, I, I, I, O, I, I, O, I, I, I, I, I, I, I, I, O, O] rfl rfl rfl rfl (two_of HT_.out (by kernel_rfl)) (by decide) (by decide) (fun K hK => ?_) (fun K hK => ?_)
                    ·skip
                     refine Kd.R_lit_step (Kd.int .u8) _ 5 rfl (N := 104) rfl (xs := ([(wrap64 (64 + (wrap64 (Int.tdiv (wrap64 (20 + (t422.size : Int))) 4)))) % 256, (d0) % 256] : List Int)) (inner := [.int .u8 ((wrap64 (64 + (wrap64 (Int.tdiv (wrap64 (20 + (t422.size : Int))) 4)))) % 256), .int .u8 ((d0) % 256)]) (ok := fun _ => True) (okp := fun _ => True) kG ?hp (fun _ hk => hk) trivial (Below.refl _ _) (Nat.le_refl _) (by simp) ?_; (case hp => exact (Reps.one (show Kd.M (Kd.int .u8) _ _ _ ((wrap64 (64 + (wrap64 (Int.tdiv (wrap64 (20 + (t422.size : Int))) 4)))) % 256) [.int .u8 ((wrap64 (64 + (wrap64 (Int.tdiv (wrap64 (20 + (t422.size : Int))) 4)))) % 256)] from rfl) (Reps.one (show Kd.M (Kd.int .u8) _ _ _ ((d0) % 256) [.int .u8 ((d0) % 256)] from rfl) (Reps.none _ _))))
                     intro v424 w86 ho87 hb hg_ hnew_
                     clear hg_ hnew_
                     (first | rw [← Ny423.out] at ho87 | (simp only [Int.reduceToNat] at ho87; rw [← Ny423.out] at ho87))
                     have HO425 := As (Kd.R_lower (Kd.R_new' ho87 (Kd.R_lt (kR HO431.out))) (below_size (kB1 HB.out GE414.out)))
                     replace HO431 := As (Kd.R_elder' (kR HO431.out) (Kd.R_base ho87) hb)
                     replace BK414 := As (blk_below (kb BK414.out) hb)
                     replace HB := As (below_step (kB1 HB.out GE414.out) hb)
                     clear hb ho87
                     refine hK.out _ _ (cells_15 BK414.out) (fun hHeld => ?_)
                     clear hK K
                     refine nP ?_
                     exact nJ (hJ7_14_18_21_29 (v424, v430) _ ⟨hHeld, (by (with_reducible repeat (first | apply Kd.R_alloc | apply Kd.R_drewN | apply Kd.R_drew)); exact Kd.R_mono HO425.out (fun _ hk => hk.2)), (by (with_reducible repeat (first | apply Kd.R_alloc | apply Kd.R_drewN | apply Kd.R_drew)); exact Kd.R_mono HO431.out (fun _ hk => hk.2)), (kb BK414.out), (kB1 HB.out GE414.out)⟩)
                    skip
                    have hcv86 := own_string (P := Try.prog) Try.underlying46 Try.underlying5 Try.underlying9 (Kd.own_of_R HO431.out)
                    refine value_ (w1 := ?_) (v := ?_) (by rfl) rfl ?_ ?_
                    rotate_left 2
                    ·go_simp
                     constructor
                     ·rfl
                     rfl
                    clear hcv86
                    refine hK.out _ _ (cells_15 BK414.out) (fun hHeld => ?_)
                    clear hK K
                    refine nP ?_
                    exact nJ (hJ14_18_21_29_30 (v430) _ ⟨hHeld, (kR HO431.out), (kb BK414.out), (kB1 HB.out GE414.out)⟩)
                   skip
                   rintro ⟨v424, v430⟩ w86 ⟨hS_, h0_, h1_, h2_, h3_⟩
                   have n0_ : Aside0 (Kd.R (Kd.int .u8) 5 w86 w.heap.size (fun k_ => some k_ ≠ (v430 : Value).ownBlock) v424 y423) := ⟨h0_⟩
                   have n1_ : Aside0 (Kd.R (Kd.int .u8) 5 w86 w.heap.size (fun k_ => some k_ ≠ (v424 : Value).ownBlock) v430 y429) := ⟨h1_⟩
                   have n2_ : Aside0 (w86.heap[gb414]? = some (.cells #[.int .i64 d0, .int .i64 d1, .int .i64 d2, .int .i64 d3, .bool d4, .bool d5, .int .i64 d6, .bool d7, .int .u64 d8, .int .u64 d9, .bool d10, .int .u64 d11, .int .u64 d12, .slice A0_13 l0_13.length c0_13, .string d14] 28 (0, 0))) := ⟨h2_⟩
                   have n3_ : Aside0 (Below w.heap.size w w86) := ⟨h3_⟩
                   clear BK414
                   clear HB
                   clear h0_ h1_ h2_ h3_
                   have HO425 := n0_
                   have HO431 := n1_
                   have BK414 := n2_
                   have HB := n3_
                   clear n0_ n1_ n2_ n3_
                   have hHeld : h15 w86 gb414 (.int .i64 d0) (.int .i64 d1) (.int .i64 d2) (.int .i64 d3) (.bool d4) (.bool d5) (.int .i64 d6) (.bool d7) (.int .u64 d8) (.int .u64 d9) (.bool d10) (.int .u64 d11) (.int .u64 d12) (.slice A0_13 l0_13.length c0_13) (.string d14) := hS_
                   refine norm_ (a' := ?_) ?_ ?_
                   rotate_left
                   ·simp only [putAll, Act.put, sA, sZ, sS]
                    rfl
                   refine two_ (i := 8) (j := 18) (Ni := some 105) (Nj := some 115) #[I, I, I, I, I, I, I, I, I, I, I, I, I, I, I, O, I, I, O, O, I, O, O, I, I, I, I, I, I, I, I, O, O] #[I, I, I, I, I, I, I, I, O, I, I, I, I, I, I, O, I, I, I, O, I, O, O, I, I, I, I, I, I, I, I, O, O] rfl rfl rfl rfl (two_of HT_.out (by kernel_rfl)) (by decide) (by decide) (fun K hK => ?_) (fun K hK => ?_)
                   ·skip
                    have hcv87 := own_string (P := Try.prog) Try.underlying46 Try.underlying5 Try.underlying9 (Kd.own_of_R HO425.out)
                    refine value_ (w1 := ?_) (v := ?_) (by rfl) rfl ?_ ?_
                    rotate_left 2
                    ·go_simp
                     constructor
                     ·rfl
                     rfl
                    clear hcv87
                    refine hK.out _ _ (cells_15 BK414.out) (fun hHeld => ?_)
                    clear hK K
                    refine nP ?_
                    refine kP 15 112 #[I, I, I, I, I, I, I, I, I, I, I, I, I, I, I, I, I, I, O, O, I, O, O, I, I, I, I, I, I, I, I, O, O] ?_ (any_of HT_.out (by kernel_rfl))
                    exact nJ (hJ7_8_14_29_30 (v424, v430) _ ⟨hHeld, (kR HO425.out), (kR HO431.out), (kb BK414.out), (kB1 HB.out GE414.out)⟩)
                   skip
                   refine goes_ Try.func44 (by kernel_rfl) rfl #[.int .i64 d1, .int .i64 2] (by rfl) rfl rfl kA ?_
                   with_reducible refine (intrusionref01_Put.calls kj57 d1 2 t427 _ A63.out).mono ?_
                   rintro e w87 ⟨rfl, hb⟩
                   refine ⟨_, rfl, ?_⟩
                   replace HO425 := As (Kd.R_below (kR HO425.out) hb)
                   replace HO431 := As (Kd.R_below (kR HO431.out) hb)
                   replace BK414 := As (blk_below (kb BK414.out) hb)
                   replace HB := As (below_step (kB1 HB.out GE414.out) hb)
                   (try clear hb)
                   (try clear hb2)
                   (try clear hk)
                   (try clear hi)
                   refine hK.out _ _ (cells_15 BK414.out) (fun hHeld => ?_)
                   clear hK K
                   refine nP ?_
                   exact nJ (hJ7_14_18_29_30 (v424, v430) _ ⟨hHeld, (kR HO425.out), (kR HO431.out), (kb BK414.out), (kB1 HB.out GE414.out)⟩)
                  skip
                  rintro ⟨v424, v430⟩ w86 ⟨hS_, h0_, h1_, h2_, h3_⟩
                  have n0_ : Aside0 (Kd.R (Kd.int .u8) 5 w86 w.heap.size (fun k_ => some k_ ≠ (v430 : Value).ownBlock) v424 y423) := ⟨h0_⟩
                  have n1_ : Aside0 (Kd.R (Kd.int .u8) 5 w86 w.heap.size (fun k_ => some k_ ≠ (v424 : Value).ownBlock) v430 y429) := ⟨h1_⟩
                  have n2_ : Aside0 (w86.heap[gb414]? = some (.cells #[.int .i64 d0, .int .i64 d1, .int .i64 d2, .int .i64 d3, .bool d4, .bool d5, .int .i64 d6, .bool d7, .int .u64 d8, .int .u64 d9, .bool d10, .int .u64 d11, .int .u64 d12, .slice A0_13 l0_13.length c0_13, .string d14] 28 (0, 0))) := ⟨h2_⟩
                  have n3_ : Aside0 (Below w.heap.size w w86) := ⟨h3_⟩
                  clear BK414
                  clear HB
                  clear h0_ h1_ h2_ h3_
                  have HO425 := n0_
                  have HO431 := n1_
                  have BK414 := n2_
                  have HB := n3_
                  clear n0_ n1_ n2_ n3_
                  have hHeld : h15 w86 gb414 (.int .i64 d0) (.int .i64 d1) (.int .i64 d2) (.int .i64 d3) (.bool d4) (.bool d5) (.int .i64 d6) (.bool d7) (.int .u64 d8) (.int .u64 d9) (.bool d10) (.int .u64 d11) (.int .u64 d12) (.slice A0_13 l0_13.length c0_13) (.string d14) := hS_
                  refine norm_ (a' := ?_) ?_ ?_
                  rotate_left
                  ·simp only [putAll, Act.put, sA, sZ, sS]
                   rfl
                  refine three_ (i := 8) (j := 21) (k := 30) (Ni := some 105) (Nj := some 118) (Nk := some 127) #[I, I, I, I, I, I, I, I, I, I, I, I, I, I, I, O, I, I, I, O, I, O, O, I, I, I, I, I, I, I, O, O, O] #[I, I, I, I, I, I, I, I, O, I, I, I, I, I, I, O, I, I, I, O, I, I, O, I, I, I, I, I, I, I, O, O, O] #[I, I, I, I, I, I, I, I, O, I, I, I, I, I, I, O, I, I, I, O, I, O, O, I, I, I, I, I, I, I, I, O, O] rfl rfl rfl rfl rfl rfl (three_of HT_.out (by kernel_rfl)) (by decide) (by decide) (by decide) (fun K hK => ?_) (fun K hK => ?_) (fun K hK => ?_)
                  ·skip
                   have hcv87 := own_string (P := Try.prog) Try.underlying46 Try.underlying5 Try.underlying9 (Kd.own_of_R HO425.out)
                   refine value_ (w1 := ?_) (v := ?_) (by rfl) rfl ?_ ?_
                   rotate_left 2
                   ·go_simp
                    constructor
                    ·rfl
                    rfl
                   clear hcv87
                   refine hK.out _ _ (cells_15 BK414.out) (fun hHeld => ?_)
                   clear hK K
                   refine nP ?_
                   refine kP 15 112 #[I, I, I, I, I, I, I, I, I, I, I, I, I, I, I, I, I, I, I, O, I, O, O, I, I, I, I, I, I, I, O, O, O] ?_ (any_of HT_.out (by kernel_rfl))
                   refine kP 19 116 #[I, I, I, I, I, I, I, I, I, I, I, I, I, I, I, I, I, I, I, I, I, O, O, I, I, I, I, I, I, I, O, O, O] ?_ (any_of HT_.out (by kernel_rfl))
                   exact nJ (hJ7_8_14_18_29 (v424, v430) _ ⟨hHeld, (kR HO425.out), (kR HO431.out), (kb BK414.out), (kB1 HB.out GE414.out)⟩)
                  ·skip
                   refine goes_ Try.func44 (by kernel_rfl) rfl #[.int .i64 x6_57, .int .i64 2] (by rfl) rfl rfl kA ?_
                   with_reducible refine (intrusionref01_Put.calls kj57 x6_57 2 t428 _ A65.out).mono ?_
                   rintro e w87 ⟨rfl, hb⟩
                   refine ⟨_, rfl, ?_⟩
                   replace HO425 := As (Kd.R_below (kR HO425.out) hb)
                   replace HO431 := As (Kd.R_below (kR HO431.out) hb)
                   replace BK414 := As (blk_below (kb BK414.out) hb)
                   replace HB := As (below_step (kB1 HB.out GE414.out) hb)
                   (try clear hb)
                   (try clear hb2)
                   (try clear hk)
                   (try clear hi)
                   refine hK.out _ _ (cells_15 BK414.out) (fun hHeld => ?_)
                   clear hK K
                   refine nP ?_
                   exact nJ (hJ7_14_18_21_29 (v424, v430) _ ⟨hHeld, (kR HO425.out), (kR HO431.out), (kb BK414.out), (kB1 HB.out GE414.out)⟩)
                  skip
                  have hcv87 := own_string (P := Try.prog) Try.underlying46 Try.underlying5 Try.underlying9 (Kd.own_of_R HO431.out)
                  refine value_ (w1 := ?_) (v := ?_) (by rfl) rfl ?_ ?_
                  rotate_left 2
                  ·go_simp
                   constructor
                   ·rfl
                   rfl
                  clear hcv87
                  refine hK.out _ _ (cells_15 BK414.out) (fun hHeld => ?_)
                  clear hK K
                  refine nP ?_
                  exact nJ (hJ7_14_18_29_30 (v424, v430) _ ⟨hHeld, (kR HO425.out), (kR HO431.out), (kb BK414.out), (kB1 HB.out GE414.out)⟩)
                 skip
                 rintro v424 w85 ⟨hS_, h0_, h1_, h2_⟩
                 have n0_ : Aside0 (Kd.R (Kd.int .u8) 5 w85 w.heap.size (fun _ => True) v424 y423) := ⟨h0_⟩
                 have n1_ : Aside0 (w85.heap[gb414]? = some (.cells #[.int .i64 d0, .int .i64 d1, .int .i64 d2, .int .i64 d3, .bool d4, .bool d5, .int .i64 d6, .bool d7, .int .u64 d8, .int .u64 d9, .bool d10, .int .u64 d11, .int .u64 d12, .slice A0_13 l0_13.length c0_13, .string d14] 28 (0, 0))) := ⟨h1_⟩
                 have n2_ : Aside0 (Below w.heap.size w w85) := ⟨h2_⟩
                 clear BK414
                 clear HB
                 clear h0_ h1_ h2_
                 have HO425 := n0_
                 have BK414 := n1_
                 have HB := n2_
                 clear n0_ n1_ n2_
                 have hHeld : h15 w85 gb414 (.int .i64 d0) (.int .i64 d1) (.int .i64 d2) (.int .i64 d3) (.bool d4) (.bool d5) (.int .i64 d6) (.bool d7) (.int .u64 d8) (.int .u64 d9) (.bool d10) (.int .u64 d11) (.int .u64 d12) (.slice A0_13 l0_13.length c0_13) (.string d14) := hS_
                 refine norm_ (a' := ?_) ?_ ?_
                 rotate_left
                 ·simp only [putAll, Act.put, sA, sZ, sS]
                  rfl
                 refine two_ (i := 8) (j := 29) (Ni := some 105) (Nj := some 126) #[I, I, I, I, I, I, I, I, I, I, I, I, I, I, I, O, I, I, I, O, I, I, O, I, I, I, I, I, I, O, O, O, O] #[I, I, I, I, I, I, I, I, O, I, I, I, I, I, I, O, I, I, I, O, I, I, O, I, I, I, I, I, I, I, O, O, O] rfl rfl rfl rfl (two_of HT_.out (by kernel_rfl)) (by decide) (by decide) (fun K hK => ?_) (fun K hK => ?_)
                 ·skip
                  have hcv86 := own_string (P := Try.prog) Try.underlying46 Try.underlying5 Try.underlying9 (Kd.own_of_R HO425.out)
                  refine value_ (w1 := ?_) (v := ?_) (by rfl) rfl ?_ ?_
                  rotate_left 2
                  ·go_simp
                   constructor
                   ·rfl
                   rfl
                  clear hcv86
                  refine hK.out _ _ (cells_15 BK414.out) (fun hHeld => ?_)
                  clear hK K
                  refine nP ?_
                  refine kP 15 112 #[I, I, I, I, I, I, I, I, I, I, I, I, I, I, I, I, I, I, I, O, I, I, O, I, I, I, I, I, I, O, O, O, O] ?_ (any_of HT_.out (by kernel_rfl))
                  refine kP 19 116 #[I, I, I, I, I, I, I, I, I, I, I, I, I, I, I, I, I, I, I, I, I, I, O, I, I, I, I, I, I, O, O, O, O] ?_ (any_of HT_.out (by kernel_rfl))
                  refine kP 22 119 #[I, I, I, I, I, I, I, I, I, I, I, I, I, I, I, I, I, I, I, I, I, I, I, I, I, I, I, I, I, O, O, O, O] ?_ (any_of HT_.out (by kernel_rfl))
                  exact nJ (hJ7_8_14_18_21 (v424) _ ⟨hHeld, (kR HO425.out), (kb BK414.out), (kB1 HB.out GE414.out)⟩)
                 skip
                 refine Kd.R_lit_step (Kd.int .u8) _ 5 rfl (N := 126) rfl (xs := ([(d2) % 256, (d3) % 256] : List Int)) (inner := [.int .u8 ((d2) % 256), .int .u8 ((d3) % 256)]) (ok := fun _ => True) (okp := fun _ => True) kG ?hp (fun _ hk => hk) trivial (Below.refl _ _) (Nat.le_refl _) (by simp) ?_; (case hp => exact (Reps.one (show Kd.M (Kd.int .u8) _ _ _ ((d2) % 256) [.int .u8 ((d2) % 256)] from rfl) (Reps.one (show Kd.M (Kd.int .u8) _ _ _ ((d3) % 256) [.int .u8 ((d3) % 256)] from rfl) (Reps.none _ _))))
                 intro v430 w86 ho87 hb hg_ hnew_
                 clear hg_ hnew_
                 (first | rw [← Ny429.out] at ho87 | (simp only [Int.reduceToNat] at ho87; rw [← Ny429.out] at ho87))
                 have HO431 := As (Kd.R_lower (Kd.R_new' ho87 (Kd.R_lt (kR HO425.out))) (below_size (kB1 HB.out GE414.out)))
                 replace HO425 := As (Kd.R_elder' (kR HO425.out) (Kd.R_base ho87) hb)
                 replace BK414 := As (blk_below (kb BK414.out) hb)
                 replace HB := As (below_step (kB1 HB.out GE414.out) hb)
                 clear hb ho87
                 refine hK.out _ _ (cells_15 BK414.out) (fun hHeld => ?_)
                 clear hK K
                 refine nP ?_
                 exact nJ (hJ7_14_18_21_29 (v424, v430) _ ⟨hHeld, (by (with_reducible repeat (first | apply Kd.R_alloc | apply Kd.R_drewN | apply Kd.R_drew)); exact Kd.R_mono HO425.out (fun _ hk => hk.2)), (by (with_reducible repeat (first | apply Kd.R_alloc | apply Kd.R_drewN | apply Kd.R_drew)); exact Kd.R_mono HO431.out (fun _ hk => hk.2)), (kb BK414.out), (kB1 HB.out GE414.out)⟩)
                skip
                rintro ⟨v424, v430⟩ w86 ⟨hS_, h0_, h1_, h2_, h3_⟩
                have n0_ : Aside0 (Kd.R (Kd.int .u8) 5 w86 w.heap.size (fun k_ => some k_ ≠ (v430 : Value).ownBlock) v424 y423) := ⟨h0_⟩
                have n1_ : Aside0 (Kd.R (Kd.int .u8) 5 w86 w.heap.size (fun k_ => some k_ ≠ (v424 : Value).ownBlock) v430 y429) := ⟨h1_⟩
                have n2_ : Aside0 (w86.heap[gb414]? = some (.cells #[.int .i64 d0, .int .i64 d1, .int .i64 d2, .int .i64 d3, .bool d4, .bool d5, .int .i64 d6, .bool d7, .int .u64 d8, .int .u64 d9, .bool d10, .int .u64 d11, .int .u64 d12, .slice A0_13 l0_13.length c0_13, .string d14] 28 (0, 0))) := ⟨h2_⟩
                have n3_ : Aside0 (Below w.heap.size w w86) := ⟨h3_⟩
                clear BK414
                clear HB
                clear h0_ h1_ h2_ h3_
                have HO425 := n0_
                have HO431 := n1_
                have BK414 := n2_
                have HB := n3_
                clear n0_ n1_ n2_ n3_
                have hHeld : h15 w86 gb414 (.int .i64 d0) (.int .i64 d1) (.int .i64 d2) (.int .i64 d3) (.bool d4) (.bool d5) (.int .i64 d6) (.bool d7) (.int .u64 d8) (.int .u64 d9) (.bool d10) (.int .u64 d11) (.int .u64 d12) (.slice A0_13 l0_13.length c0_13) (.string d14) := hS_
                refine norm_ (a' := ?_) ?_ ?_
                rotate_left
                ·simp only [putAll, Act.put, sA, sZ, sS]
                 rfl
                refine one_ (i := 14) (N := some 111) #[I, I, I, I, I, I, I, I, I, I, I, I, I, I, I, O, I, I, O, O, I, O, O, I, I, I, I, I, I, I, I, O, O] rfl rfl (one_of HT_.out (by kernel_rfl)) (by decide) (fun K hK => ?_)
                refine goes_ Try.func44 (by kernel_rfl) rfl #[.int .i64 (wrap64 ((wrap64 (20 + (t422.size : Int))) + (d14.size : Int))), .int .i64 2] (by rfl) rfl rfl kA ?_
                with_reducible refine (intrusionref01_Put.calls kj57 (wrap64 ((wrap64 (20 + (t422.size : Int))) + (d14.size : Int))) 2 t426 _ A61.out).mono ?_
                rintro e w87 ⟨rfl, hb⟩
                refine ⟨_, rfl, ?_⟩
                replace HO425 := As (Kd.R_below (kR HO425.out) hb)
                replace HO431 := As (Kd.R_below (kR HO431.out) hb)
                replace BK414 := As (blk_below (kb BK414.out) hb)
                replace HB := As (below_step (kB1 HB.out GE414.out) hb)
                (try clear hb)
                (try clear hb2)
                (try clear hk)
                (try clear hi)
                refine hK.out _ _ (cells_15 BK414.out) (fun hHeld => ?_)
                clear hK K
                refine nP ?_
                refine kP 15 112 #[I, I, I, I, I, I, I, I, I, I, I, I, I, I, I, I, I, I, O, O, I, O, O, I, I, I, I, I, I, I, I, O, O] ?_ (any_of HT_.out (by kernel_rfl))
                exact nJ (hJ7_8_14_29_30 (v424, v430) _ ⟨hHeld, (kR HO425.out), (kR HO431.out), (kb BK414.out), (kB1 HB.out GE414.out)⟩)
               skip
               rintro ⟨v424, v430⟩ w86 ⟨hS_, h0_, h1_, h2_, h3_⟩
               have n0_ : Aside0 (Kd.R (Kd.int .u8) 5 w86 w.heap.size (fun k_ => some k_ ≠ (v430 : Value).ownBlock) v424 y423) := ⟨h0_⟩
               have n1_ : Aside0 (Kd.R (Kd.int .u8) 5 w86 w.heap.size (fun k_ => some k_ ≠ (v424 : Value).ownBlock) v430 y429) := ⟨h1_⟩
               have n2_ : Aside0 (w86.heap[gb414]? = some (.cells #[.int .i64 d0, .int .i64 d1, .int .i64 d2, .int .i64 d3, .bool d4, .bool d5, .int .i64 d6, .bool d7, .int .u64 d8, .int .u64 d9, .bool d10, .int .u64 d11, .int .u64 d12, .slice A0_13 l0_13.length c0_13, .string d14] 28 (0, 0))) := ⟨h2_⟩
               have n3_ : Aside0 (Below w.heap.size w w86) := ⟨h3_⟩
               clear BK414
               clear HB
               clear h0_ h1_ h2_ h3_
               have HO425 := n0_
               have HO431 := n1_
               have BK414 := n2_
               have HB := n3_
               clear n0_ n1_ n2_ n3_
               have hHeld : h15 w86 gb414 (.int .i64 d0) (.int .i64 d1) (.int .i64 d2) (.int .i64 d3) (.bool d4) (.bool d5) (.int .i64 d6) (.bool d7) (.int .u64 d8) (.int .u64 d9) (.bool d10) (.int .u64 d11) (.int .u64 d12) (.slice A0_13 l0_13.length c0_13) (.string d14) := hS_
               refine norm_ (a' := ?_) ?_ ?_
               rotate_left
               ·simp only [putAll, Act.put, sA, sZ, sS]
                rfl
               refine two_ (i := 18) (j := 30) (Ni := some 115) (Nj := some 127) #[I, I, I, I, I, I, I, I, I, I, I, I, I, I, I, I, I, I, I, O, I, O, O, I, I, I, I, I, I, I, O, O, O] #[I, I, I, I, I, I, I, I, I, I, I, I, I, I, I, I, I, I, O, O, I, O, O, I, I, I, I, I, I, I, I, O, O] rfl rfl rfl rfl (two_of HT_.out (by kernel_rfl)) (by decide) (by decide) (fun K hK => ?_) (fun K hK => ?_)
               ·skip
                refine goes_ Try.func44 (by kernel_rfl) rfl #[.int .i64 d1, .int .i64 2] (by rfl) rfl rfl kA ?_
                with_reducible refine (intrusionref01_Put.calls kj57 d1 2 t427 _ A63.out).mono ?_
                rintro e w87 ⟨rfl, hb⟩
                refine ⟨_, rfl, ?_⟩
                replace HO425 := As (Kd.R_below (kR HO425.out) hb)
                replace HO431 := As (Kd.R_below (kR HO431.out) hb)
                replace BK414 := As (blk_below (kb BK414.out) hb)
                replace HB := As (below_step (kB1 HB.out GE414.out) hb)
                (try clear hb)
                (try clear hb2)
                (try clear hk)
                (try clear hi)
                refine hK.out _ _ (cells_15 BK414.out) (fun hHeld => ?_)
                clear hK K
                refine nP ?_
                refine kP 19 116 #[I, I, I, I, I, I, I, I, I, I, I, I, I, I, I, I, I, I, I, I, I, O, O, I, I, I, I, I, I, I, O, O, O] ?_ (any_of HT_.out (by kernel_rfl))
                exact nJ (hJ7_8_14_18_29 (v424, v430) _ ⟨hHeld, (kR HO425.out), (kR HO431.out), (kb BK414.out), (kB1 HB.out GE414.out)⟩)
               skip
               have hcv87 := own_string (P := Try.prog) Try.underlying46 Try.underlying5 Try.underlying9 (Kd.own_of_R HO431.out)
               refine value_ (w1 := ?_) (v := ?_) (by rfl) rfl ?_ ?_
               rotate_left 2
               ·go_simp
                constructor
                ·rfl
                rfl
               clear hcv87
               refine hK.out _ _ (cells_15 BK414.out) (fun hHeld => ?_)
               clear hK K
               refine nP ?_
               exact nJ (hJ7_8_14_29_30 (v424, v430) _ ⟨hHeld, (kR HO425.out), (kR HO431.out), (kb BK414.out), (kB1 HB.out GE414.out)⟩)
              skip
              rintro v424 w85 ⟨hS_, h0_, h1_, h2_⟩
              have n0_ : Aside0 (Kd.R (Kd.int .u8) 5 w85 w.heap.size (fun _ => True) v424 y423) := ⟨h0_⟩
              have n1_ : Aside0 (w85.heap[gb414]? = some (.cells #[.int .i64 d0, .int .i64 d1, .int .i64 d2, .int .i64 d3, .bool d4, .bool d5, .int .i64 d6, .bool d7, .int .u64 d8, .int .u64 d9, .bool d10, .int .u64 d11, .int .u64 d12, .slice A0_13 l0_13.length c0_13, .string d14] 28 (0, 0))) := ⟨h1_⟩
              have n2_ : Aside0 (Below w.heap.size w w85) := ⟨h2_⟩
              clear BK414
              clear HB
              clear h0_ h1_ h2_
              have HO425 := n0_
              have BK414 := n1_
              have HB := n2_
              clear n0_ n1_ n2_
              have hHeld : h15 w85 gb414 (.int .i64 d0) (.int .i64 d1) (.int .i64 d2) (.int .i64 d3) (.bool d4) (.bool d5) (.int .i64 d6) (.bool d7) (.int .u64 d8) (.int .u64 d9) (.bool d10) (.int .u64 d11) (.int .u64 d12) (.slice A0_13 l0_13.length c0_13) (.string d14) := hS_
              refine norm_ (a' := ?_) ?_ ?_
              rotate_left
              ·simp only [putAll, Act.put, sA, sZ, sS]
               rfl
              refine two_ (i := 21) (j := 29) (Ni := some 118) (Nj := some 126) #[I, I, I, I, I, I, I, I, I, I, I, I, I, I, I, I, I, I, I, I, I, I, O, I, I, I, I, I, I, O, O, O, O] #[I, I, I, I, I, I, I, I, I, I, I, I, I, I, I, I, I, I, I, I, I, O, O, I, I, I, I, I, I, I, O, O, O] rfl rfl rfl rfl (two_of HT_.out (by kernel_rfl)) (by decide) (by decide) (fun K hK => ?_) (fun K hK => ?_)
              ·skip
               refine goes_ Try.func44 (by kernel_rfl) rfl #[.int .i64 x6_57, .int .i64 2] (by rfl) rfl rfl kA ?_
               with_reducible refine (intrusionref01_Put.calls kj57 x6_57 2 t428 _ A65.out).mono ?_
               rintro e w86 ⟨rfl, hb⟩
               refine ⟨_, rfl, ?_⟩
               replace HO425 := As (Kd.R_below (kR HO425.out) hb)
               replace BK414 := As (blk_below (kb BK414.out) hb)
               replace HB := As (below_step (kB1 HB.out GE414.out) hb)
               (try clear hb)
               (try clear hb2)
               (try clear hk)
               (try clear hi)
               refine hK.out _ _ (cells_15 BK414.out) (fun hHeld => ?_)
               clear hK K
               refine nP ?_
               refine kP 22 119 #[I, I, I, I, I, I, I, I, I, I, I, I, I, I, I, I, I, I, I, I, I, I, I, I, I, I, I, I, I, O, O, O, O] ?_ (any_of HT_.out (by kernel_rfl))
               exact nJ (hJ7_8_14_18_21 (v424) _ ⟨hHeld, (kR HO425.out), (kb BK414.out), (kB1 HB.out GE414.out)⟩)
              skip
              refine Kd.R_lit_step (Kd.int .u8) _ 5 rfl (N := 126) rfl (xs := ([(d2) % 256, (d3) % 256] : List Int)) (inner := [.int .u8 ((d2) % 256), .int .u8 ((d3) % 256)]) (ok := fun _ => True) (okp := fun _ => True) kG ?hp (fun _ hk => hk) trivial (Below.refl _ _) (Nat.le_refl _) (by simp) ?_; (case hp => exact (Reps.one (show Kd.M (Kd.int .u8) _ _ _ ((d2) % 256) [.int .u8 ((d2) % 256)] from rfl) (Reps.one (show Kd.M (Kd.int .u8) _ _ _ ((d3) % 256) [.int .u8 ((d3) % 256)] from rfl) (Reps.none _ _))))
              intro v430 w86 ho87 hb hg_ hnew_
              clear hg_ hnew_
              (first | rw [← Ny429.out] at ho87 | (simp only [Int.reduceToNat] at ho87; rw [← Ny429.out] at ho87))
              have HO431 := As (Kd.R_lower (Kd.R_new' ho87 (Kd.R_lt (kR HO425.out))) (below_size (kB1 HB.out GE414.out)))
              replace HO425 := As (Kd.R_elder' (kR HO425.out) (Kd.R_base ho87) hb)
              replace BK414 := As (blk_below (kb BK414.out) hb)
              replace HB := As (below_step (kB1 HB.out GE414.out) hb)
              clear hb ho87
              refine hK.out _ _ (cells_15 BK414.out) (fun hHeld => ?_)
              clear hK K
              refine nP ?_
              exact nJ (hJ7_8_14_18_29 (v424, v430) _ ⟨hHeld, (by (with_reducible repeat (first | apply Kd.R_alloc | apply Kd.R_drewN | apply Kd.R_drew)); exact Kd.R_mono HO425.out (fun _ hk => hk.2)), (by (with_reducible repeat (first | apply Kd.R_alloc | apply Kd.R_drewN | apply Kd.R_drew)); exact Kd.R_mono HO431.out (fun _ hk => hk.2)), (kb BK414.out), (kB1 HB.out GE414.out)⟩)
             skip
             rintro v430 w86 ⟨hS_, h0_, h1_, h2_⟩
             have n0_ : Aside0 (Kd.R (Kd.int .u8) 5 w86 w.heap.size (fun _ => True) v430 y429) := ⟨h0_⟩
             have n1_ : Aside0 (w86.heap[gb414]? = some (.cells #[.int .i64 d0, .int .i64 d1, .int .i64 d2, .int .i64 d3, .bool d4, .bool d5, .int .i64 d6, .bool d7, .int .u64 d8, .int .u64 d9, .bool d10, .int .u64 d11, .int .u64 d12, .slice A0_13 l0_13.length c0_13, .string d14] 28 (0, 0))) := ⟨h1_⟩
             have n2_ : Aside0 (Below w.heap.size w w86) := ⟨h2_⟩
             clear BK414
             clear HB
             clear h0_ h1_ h2_
             have HO431 := n0_
             have BK414 := n1_
             have HB := n2_
             clear n0_ n1_ n2_
             have hHeld : h15 w86 gb414 (.int .i64 d0) (.int .i64 d1) (.int .i64 d2) (.int .i64 d3) (.bool d4) (.bool d5) (.int .i64 d6) (.bool d7) (.int .u64 d8) (.int .u64 d9) (.bool d10) (.int .u64 d11) (.int .u64 d12) (.slice A0_13 l0_13.length c0_13) (.string d14) := hS_
             refine norm_ (a' := ?_) ?_ ?_
             rotate_left
             ·simp only [putAll, Act.put, sA, sZ, sS]
              rfl
             refine one_ (i := 7) (N := some 104) #[I, I, I, I, I, I, I, I, O, I, I, I, I, I, I, O, I, I, I, O, I, I, O, I, I, I, I, I, I, I, I, O, O] rfl rfl (one_of HT_.out (by kernel_rfl)) (by decide) (fun K hK => ?_)
             refine Kd.R_lit_step (Kd.int .u8) _ 5 rfl (N := 104) rfl (xs := ([(wrap64 (64 + (wrap64 (Int.tdiv (wrap64 (20 + (t422.size : Int))) 4)))) % 256, (d0) % 256] : List Int)) (inner := [.int .u8 ((wrap64 (64 + (wrap64 (Int.tdiv (wrap64 (20 + (t422.size : Int))) 4)))) % 256), .int .u8 ((d0) % 256)]) (ok := fun _ => True) (okp := fun _ => True) kG ?hp (fun _ hk => hk) trivial (Below.refl _ _) (Nat.le_refl _) (by simp) ?_; (case hp => exact (Reps.one (show Kd.M (Kd.int .u8) _ _ _ ((wrap64 (64 + (wrap64 (Int.tdiv (wrap64 (20 + (t422.size : Int))) 4)))) % 256) [.int .u8 ((wrap64 (64 + (wrap64 (Int.tdiv (wrap64 (20 + (t422.size : Int))) 4)))) % 256)] from rfl) (Reps.one (show Kd.M (Kd.int .u8) _ _ _ ((d0) % 256) [.int .u8 ((d0) % 256)] from rfl) (Reps.none _ _))))
             intro v424 w87 ho88 hb hg_ hnew_
             clear hg_ hnew_
             (first | rw [← Ny423.out] at ho88 | (simp only [Int.reduceToNat] at ho88; rw [← Ny423.out] at ho88))
             have HO425 := As (Kd.R_lower (Kd.R_new' ho88 (Kd.R_lt (kR HO431.out))) (below_size (kB1 HB.out GE414.out)))
             replace HO431 := As (Kd.R_elder' (kR HO431.out) (Kd.R_base ho88) hb)
             replace BK414 := As (blk_below (kb BK414.out) hb)
             replace HB := As (below_step (kB1 HB.out GE414.out) hb)
             clear hb ho88
             refine hK.out _ _ (cells_15 BK414.out) (fun hHeld => ?_)
             clear hK K
             refine nP ?_
             exact nJ (hJ7_14_18_21_29_30 (v424, v430) _ ⟨hHeld, (by (with_reducible repeat (first | apply Kd.R_alloc | apply Kd.R_drewN | apply Kd.R_drew)); exact Kd.R_mono HO425.out (fun _ hk => hk.2)), (by (with_reducible repeat (first | apply Kd.R_alloc | apply Kd.R_drewN | apply Kd.R_drew)); exact Kd.R_mono HO431.out (fun _ hk => hk.2)), (kb BK414.out), (kB1 HB.out GE414.out)⟩)
            skip
            rintro ⟨v424, v430⟩ w87 ⟨hS_, h0_, h1_, h2_, h3_⟩
            have n0_ : Aside0 (Kd.R (Kd.int .u8) 5 w87 w.heap.size (fun k_ => some k_ ≠ (v430 : Value).ownBlock) v424 y423) := ⟨h0_⟩
            have n1_ : Aside0 (Kd.R (Kd.int .u8) 5 w87 w.heap.size (fun k_ => some k_ ≠ (v424 : Value).ownBlock) v430 y429) := ⟨h1_⟩
            have n2_ : Aside0 (w87.heap[gb414]? = some (.cells #[.int .i64 d0, .int .i64 d1, .int .i64 d2, .int .i64 d3, .bool d4, .bool d5, .int .i64 d6, .bool d7, .int .u64 d8, .int .u64 d9, .bool d10, .int .u64 d11, .int .u64 d12, .slice A0_13 l0_13.length c0_13, .string d14] 28 (0, 0))) := ⟨h2_⟩
            have n3_ : Aside0 (Below w.heap.size w w87) := ⟨h3_⟩
            clear BK414
            clear HB
            clear h0_ h1_ h2_ h3_
            have HO425 := n0_
            have HO431 := n1_
            have BK414 := n2_
            have HB := n3_
            clear n0_ n1_ n2_ n3_
            have hHeld : h15 w87 gb414 (.int .i64 d0) (.int .i64 d1) (.int .i64 d2) (.int .i64 d3) (.bool d4) (.bool d5) (.int .i64 d6) (.bool d7) (.int .u64 d8) (.int .u64 d9) (.bool d10) (.int .u64 d11) (.int .u64 d12) (.slice A0_13 l0_13.length c0_13) (.string d14) := hS_
            refine norm_ (a' := ?_) ?_ ?_
            rotate_left
            ·simp only [putAll, Act.put, sA, sZ, sS]
             rfl
            refine two_ (i := 8) (j := 21) (Ni := some 105) (Nj := some 118) #[I, I, I, I, I, I, I, I, I, I, I, I, I, I, I, O, I, I, I, O, I, O, O, I, I, I, I, I, I, I, I, O, O] #[I, I, I, I, I, I, I, I, O, I, I, I, I, I, I, O, I, I, I, O, I, I, O, I, I, I, I, I, I, I, I, O, O] rfl rfl rfl rfl (two_of HT_.out (by kernel_rfl)) (by decide) (by decide) (fun K hK => ?_) (fun K hK => ?_)
            ·skip
             have hcv88 := own_string (P := Try.prog) Try.underlying46 Try.underlying5 Try.underlying9 (Kd.own_of_R HO425.out)
             refine value_ (w1 := ?_) (v := ?_) (by rfl) rfl ?_ ?_
             rotate_left 2
             ·go_simp
              constructor
              ·rfl
              rfl
             clear hcv88
             refine hK.out _ _ (cells_15 BK414.out) (fun hHeld => ?_)
             clear hK K
             refine nP ?_
             refine kP 15 112 #[I, I, I, I, I, I, I, I, I, I, I, I, I, I, I, I, I, I, I, O, I, O, O, I, I, I, I, I, I, I, I, O, O] ?_ (any_of HT_.out (by kernel_rfl))
             refine kP 19 116 #[I, I, I, I, I, I, I, I, I, I, I, I, I, I, I, I, I, I, I, I, I, O, O, I, I, I, I, I, I, I, I, O, O] ?_ (any_of HT_.out (by kernel_rfl))
             exact nJ (hJ7_8_14_18_29_30 (v424, v430) _ ⟨hHeld, (kR HO425.out), (kR HO431.out), (kb BK414.out), (kB1 HB.out GE414.out)⟩)
            skip
            refine goes_ Try.func44 (by kernel_rfl) rfl #[.int .i64 x6_57, .int .i64 2] (by rfl) rfl rfl kA ?_
            with_reducible refine (intrusionref01_Put.calls kj57 x6_57 2 t428 _ A65.out).mono ?_
            rintro e w88 ⟨rfl, hb⟩
            refine ⟨_, rfl, ?_⟩
            replace HO425 := As (Kd.R_below (kR HO425.out) hb)
            replace HO431 := As (Kd.R_below (kR HO431.out) hb)
            replace BK414 := As (blk_below (kb BK414.out) hb)
            replace HB := As (below_step (kB1 HB.out GE414.out) hb)
            (try clear hb)
            (try clear hb2)
            (try clear hk)
            (try clear hi)
            refine hK.out _ _ (cells_15 BK414.out) (fun hHeld => ?_)
            clear hK K
            refine nP ?_
            exact nJ (hJ7_14_18_21_29_30 (v424, v430) _ ⟨hHeld, (kR HO425.out), (kR HO431.out), (kb BK414.out), (kB1 HB.out GE414.out)⟩)
           skip
           rintro ⟨v424, v430⟩ w87 ⟨hS_, h0_, h1_, h2_, h3_⟩
           have n0_ : Aside0 (Kd.R (Kd.int .u8) 5 w87 w.heap.size (fun k_ => some k_ ≠ (v430 : Value).ownBlock) v424 y423) := ⟨h0_⟩
           have n1_ : Aside0 (Kd.R (Kd.int .u8) 5 w87 w.heap.size (fun k_ => some k_ ≠ (v424 : Value).ownBlock) v430 y429) := ⟨h1_⟩
           have n2_ : Aside0 (w87.heap[gb414]? = some (.cells #[.int .i64 d0, .int .i64 d1, .int .i64 d2, .int .i64 d3, .bool d4, .bool d5, .int .i64 d6, .bool d7, .int .u64 d8, .int .u64 d9, .bool d10, .int .u64 d11, .int .u64 d12, .slice A0_13 l0_13.length c0_13, .string d14] 28 (0, 0))) := ⟨h2_⟩
           have n3_ : Aside0 (Below w.heap.size w w87) := ⟨h3_⟩
           clear BK414
           clear HB
           clear h0_ h1_ h2_ h3_
           have HO425 := n0_
           have HO431 := n1_
           have BK414 := n2_
           have HB := n3_
           clear n0_ n1_ n2_ n3_
           have hHeld : h15 w87 gb414 (.int .i64 d0) (.int .i64 d1) (.int .i64 d2) (.int .i64 d3) (.bool d4) (.bool d5) (.int .i64 d6) (.bool d7) (.int .u64 d8) (.int .u64 d9) (.bool d10) (.int .u64 d11) (.int .u64 d12) (.slice A0_13 l0_13.length c0_13) (.string d14) := hS_
           refine norm_ (a' := ?_) ?_ ?_
           rotate_left
           ·simp only [putAll, Act.put, sA, sZ, sS]
            rfl
           refine two_ (i := 8) (j := 30) (Ni := some 105) (Nj := some 127) #[I, I, I, I, I, I, I, I, I, I, I, I, I, I, I, O, I, I, I, O, I, I, O, I, I, I, I, I, I, I, O, O, O] #[I, I, I, I, I, I, I, I, O, I, I, I, I, I, I, O, I, I, I, O, I, I, O, I, I, I, I, I, I, I, I, O, O] rfl rfl rfl rfl (two_of HT_.out (by kernel_rfl)) (by decide) (by decide) (fun K hK => ?_) (fun K hK => ?_)
           ·skip
            have hcv88 := own_string (P := Try.prog) Try.underlying46 Try.underlying5 Try.underlying9 (Kd.own_of_R HO425.out)
            refine value_ (w1 := ?_) (v := ?_) (by rfl) rfl ?_ ?_
            rotate_left 2
            ·go_simp
             constructor
             ·rfl
             rfl
            clear hcv88
            refine hK.out _ _ (cells_15 BK414.out) (fun hHeld => ?_)
            clear hK K
            refine nP ?_
            refine kP 15 112 #[I, I, I, I, I, I, I, I, I, I, I, I, I, I, I, I, I, I, I, O, I, I, O, I, I, I, I, I, I, I, O, O, O] ?_ (any_of HT_.out (by kernel_rfl))
            refine kP 19 116 #[I, I, I, I, I, I, I, I, I, I, I, I, I, I, I, I, I, I, I, I, I, I, O, I, I, I, I, I, I, I, O, O, O] ?_ (any_of HT_.out (by kernel_rfl))
            refine kP 22 119 #[I, I, I, I, I, I, I, I, I, I, I, I, I, I, I, I, I, I, I, I, I, I, I, I, I, I, I, I, I, I, O, O, O] ?_ (any_of HT_.out (by kernel_rfl))
            exact nJ (hJ7_8_14_18_21_29 (v424, v430) _ ⟨hHeld, (kR HO425.out), (kR HO431.out), (kb BK414.out), (kB1 HB.out GE414.out)⟩)
           skip
           have hcv88 := own_string (P := Try.prog) Try.underlying46 Try.underlying5 Try.underlying9 (Kd.own_of_R HO431.out)
           refine value_ (w1 := ?_) (v := ?_) (by rfl) rfl ?_ ?_
           rotate_left 2
           ·go_simp
            constructor
            ·rfl
            rfl
           clear hcv88
           refine hK.out _ _ (cells_15 BK414.out) (fun hHeld => ?_)
           clear hK K
           refine nP ?_
           exact nJ (hJ7_14_18_21_29_30 (v424, v430) _ ⟨hHeld, (kR HO425.out), (kR HO431.out), (kb BK414.out), (kB1 HB.out GE414.out)⟩)
          skip
          rintro ⟨v424, v430⟩ w87 ⟨hS_, h0_, h1_, h2_, h3_⟩
          have n0_ : Aside0 (Kd.R (Kd.int .u8) 5 w87 w.heap.size (fun k_ => some k_ ≠ (v430 : Value).ownBlock) v424 y423) := ⟨h0_⟩
          have n1_ : Aside0 (Kd.R (Kd.int .u8) 5 w87 w.heap.size (fun k_ => some k_ ≠ (v424 : Value).ownBlock) v430 y429) := ⟨h1_⟩
          have n2_ : Aside0 (w87.heap[gb414]? = some (.cells #[.int .i64 d0, .int .i64 d1, .int .i64 d2, .int .i64 d3, .bool d4, .bool d5, .int .i64 d6, .bool d7, .int .u64 d8, .int .u64 d9, .bool d10, .int .u64 d11, .int .u64 d12, .slice A0_13 l0_13.length c0_13, .string d14] 28 (0, 0))) := ⟨h2_⟩
          have n3_ : Aside0 (Below w.heap.size w w87) := ⟨h3_⟩
          clear BK414
          clear HB
          clear h0_ h1_ h2_ h3_
          have HO425 := n0_
          have HO431 := n1_
          have BK414 := n2_
          have HB := n3_
          clear n0_ n1_ n2_ n3_
          have hHeld : h15 w87 gb414 (.int .i64 d0) (.int .i64 d1) (.int .i64 d2) (.int .i64 d3) (.bool d4) (.bool d5) (.int .i64 d6) (.bool d7) (.int .u64 d8) (.int .u64 d9) (.bool d10) (.int .u64 d11) (.int .u64 d12) (.slice A0_13 l0_13.length c0_13) (.string d14) := hS_
          refine norm_ (a' := ?_) ?_ ?_
          rotate_left
          ·simp only [putAll, Act.put, sA, sZ, sS]
           rfl
          refine one_ (i := 18) (N := some 115) #[I, I, I, I, I, I, I, I, I, I, I, I, I, I, I, I, I, I, I, O, I, O, O, I, I, I, I, I, I, I, I, O, O] rfl rfl (one_of HT_.out (by kernel_rfl)) (by decide) (fun K hK => ?_)
          refine goes_ Try.func44 (by kernel_rfl) rfl #[.int .i64 d1, .int .i64 2] (by rfl) rfl rfl kA ?_
          with_reducible refine (intrusionref01_Put.calls kj57 d1 2 t427 _ A63.out).mono ?_
          rintro e w88 ⟨rfl, hb⟩
          refine ⟨_, rfl, ?_⟩
          replace HO425 := As (Kd.R_below (kR HO425.out) hb)
          replace HO431 := As (Kd.R_below (kR HO431.out) hb)
          replace BK414 := As (blk_below (kb BK414.out) hb)
          replace HB := As (below_step (kB1 HB.out GE414.out) hb)
          (try clear hb)
          (try clear hb2)
          (try clear hk)
          (try clear hi)
          refine hK.out _ _ (cells_15 BK414.out) (fun hHeld => ?_)
          clear hK K
          refine nP ?_
          refine kP 19 116 #[I, I, I, I, I, I, I, I, I, I, I, I, I, I, I, I, I, I, I, I, I, O, O, I, I, I, I, I, I, I, I, O, O] ?_ (any_of HT_.out (by kernel_rfl))
          exact nJ (hJ7_8_14_18_29_30 (v424, v430) _ ⟨hHeld, (kR HO425.out), (kR HO431.out), (kb BK414.out), (kB1 HB.out GE414.out)⟩)
         skip
         rintro ⟨v424, v430⟩ w87 ⟨hS_, h0_, h1_, h2_, h3_⟩
         have n0_ : Aside0 (Kd.R (Kd.int .u8) 5 w87 w.heap.size (fun k_ => some k_ ≠ (v430 : Value).ownBlock) v424 y423) := ⟨h0_⟩
         have n1_ : Aside0 (Kd.R (Kd.int .u8) 5 w87 w.heap.size (fun k_ => some k_ ≠ (v424 : Value).ownBlock) v430 y429) := ⟨h1_⟩
         have n2_ : Aside0 (w87.heap[gb414]? = some (.cells #[.int .i64 d0, .int .i64 d1, .int .i64 d2, .int .i64 d3, .bool d4, .bool d5, .int .i64 d6, .bool d7, .int .u64 d8, .int .u64 d9, .bool d10, .int .u64 d11, .int .u64 d12, .slice A0_13 l0_13.length c0_13, .string d14] 28 (0, 0))) := ⟨h2_⟩
         have n3_ : Aside0 (Below w.heap.size w w87) := ⟨h3_⟩
         clear BK414
         clear HB
         clear h0_ h1_ h2_ h3_
         have HO425 := n0_
         have HO431 := n1_
         have BK414 := n2_
         have HB := n3_
         clear n0_ n1_ n2_ n3_
         have hHeld : h15 w87 gb414 (.int .i64 d0) (.int .i64 d1) (.int .i64 d2) (.int .i64 d3) (.bool d4) (.bool d5) (.int .i64 d6) (.bool d7) (.int .u64 d8) (.int .u64 d9) (.bool d10) (.int .u64 d11) (.int .u64 d12) (.slice A0_13 l0_13.length c0_13) (.string d14) := hS_
         refine norm_ (a' := ?_) ?_ ?_
         rotate_left
         ·simp only [putAll, Act.put, sA, sZ, sS]
          rfl
         refine two_ (i := 21) (j := 30) (Ni := some 118) (Nj := some 127) #[I, I, I, I, I, I, I, I, I, I, I, I, I, I, I, I, I, I, I, I, I, I, O, I, I, I, I, I, I, I, O, O, O] #[I, I, I, I, I, I, I, I, I, I, I, I, I, I, I, I, I, I, I, I, I, O, O, I, I, I, I, I, I, I, I, O, O] rfl rfl rfl rfl (two_of HT_.out (by kernel_rfl)) (by decide) (by decide) (fun K hK => ?_) (fun K hK => ?_)
         ·skip
          refine goes_ Try.func44 (by kernel_rfl) rfl #[.int .i64 x6_57, .int .i64 2] (by rfl) rfl rfl kA ?_
          with_reducible refine (intrusionref01_Put.calls kj57 x6_57 2 t428 _ A65.out).mono ?_
          rintro e w88 ⟨rfl, hb⟩
          refine ⟨_, rfl, ?_⟩
          replace HO425 := As (Kd.R_below (kR HO425.out) hb)
          replace HO431 := As (Kd.R_below (kR HO431.out) hb)
          replace BK414 := As (blk_below (kb BK414.out) hb)
          replace HB := As (below_step (kB1 HB.out GE414.out) hb)
          (try clear hb)
          (try clear hb2)
          (try clear hk)
          (try clear hi)
          refine hK.out _ _ (cells_15 BK414.out) (fun hHeld => ?_)
          clear hK K
          refine nP ?_
          refine kP 22 119 #[I, I, I, I, I, I, I, I, I, I, I, I, I, I, I, I, I, I, I, I, I, I, I, I, I, I, I, I, I, I, O, O, O] ?_ (any_of HT_.out (by kernel_rfl))
          exact nJ (hJ7_8_14_18_21_29 (v424, v430) _ ⟨hHeld, (kR HO425.out), (kR HO431.out), (kb BK414.out), (kB1 HB.out GE414.out)⟩)
         skip
         have hcv88 := own_string (P := Try.prog) Try.underlying46 Try.underlying5 Try.underlying9 (Kd.own_of_R HO431.out)
         refine value_ (w1 := ?_) (v := ?_) (by rfl) rfl ?_ ?_
         rotate_left 2
         ·go_simp
          constructor
          ·rfl
          rfl
         clear hcv88
         refine hK.out _ _ (cells_15 BK414.out) (fun hHeld => ?_)
         clear hK K
         refine nP ?_
         exact nJ (hJ7_8_14_18_29_30 (v424, v430) _ ⟨hHeld, (kR HO425.out), (kR HO431.out), (kb BK414.out), (kB1 HB.out GE414.out)⟩)
        skip
        rintro v424 w86 ⟨hS_, h0_, h1_, h2_⟩
        have n0_ : Aside0 (Kd.R (Kd.int .u8) 5 w86 w.heap.size (fun _ => True) v424 y423) := ⟨h0_⟩
        have n1_ : Aside0 (w86.heap[gb414]? = some (.cells #[.int .i64 d0, .int .i64 d1, .int .i64 d2, .int .i64 d3, .bool d4, .bool d5, .int .i64 d6, .bool d7, .int .u64 d8, .int .u64 d9, .bool d10, .int .u64 d11, .int .u64 d12, .slice A0_13 l0_13.length c0_13, .string d14] 28 (0, 0))) := ⟨h1_⟩
        have n2_ : Aside0 (Below w.heap.size w w86) := ⟨h2_⟩
        clear BK414
        clear HB
        clear h0_ h1_ h2_
        have HO425 := n0_
        have BK414 := n1_
        have HB := n2_
        clear n0_ n1_ n2_
        have hHeld : h15 w86 gb414 (.int .i64 d0) (.int .i64 d1) (.int .i64 d2) (.int .i64 d3) (.bool d4) (.bool d5) (.int .i64 d6) (.bool d7) (.int .u64 d8) (.int .u64 d9) (.bool d10) (.int .u64 d11) (.int .u64 d12) (.slice A0_13 l0_13.length c0_13) (.string d14) := hS_
        refine norm_ (a' := ?_) ?_ ?_
        rotate_left
        ·simp only [putAll, Act.put, sA, sZ, sS]
         rfl
        refine one_ (i := 29) (N := some 126) #[I, I, I, I, I, I, I, I, I, I, I, I, I, I, I, I, I, I, I, I, I, I, I, I, I, I, I, I, I, I, O, O, O] rfl rfl (one_of HT_.out (by kernel_rfl)) (by decide) (fun K hK => ?_)
        refine Kd.R_lit_step (Kd.int .u8) _ 5 rfl (N := 126) rfl (xs := ([(d2) % 256, (d3) % 256] : List Int)) (inner := [.int .u8 ((d2) % 256), .int .u8 ((d3) % 256)]) (ok := fun _ => True) (okp := fun _ => True) kG ?hp (fun _ hk => hk) trivial (Below.refl _ _) (Nat.le_refl _) (by simp) ?_; (case hp => exact (Reps.one (show Kd.M (Kd.int .u8) _ _ _ ((d2) % 256) [.int .u8 ((d2) % 256)] from rfl) (Reps.one (show Kd.M (Kd.int .u8) _ _ _ ((d3) % 256) [.int .u8 ((d3) % 256)] from rfl) (Reps.none _ _))))
        intro v430 w87 ho88 hb hg_ hnew_
        clear hg_ hnew_
        (first | rw [← Ny429.out] at ho88 | (simp only [Int.reduceToNat] at ho88; rw [← Ny429.out] at ho88))
        have HO431 := As (Kd.R_lower (Kd.R_new' ho88 (Kd.R_lt (kR HO425.out))) (below_size (kB1 HB.out GE414.out)))
        replace HO425 := As (Kd.R_elder' (kR HO425.out) (Kd.R_base ho88) hb)
        replace BK414 := As (blk_below (kb BK414.out) hb)
        replace HB := As (below_step (kB1 HB.out GE414.out) hb)
        clear hb ho88
        refine hK.out _ _ (cells_15 BK414.out) (fun hHeld => ?_)
        clear hK K
        refine nP ?_
        exact nJ (hJ7_8_14_18_21_29 (v424, v430) _ ⟨hHeld, (by (with_reducible repeat (first | apply Kd.R_alloc | apply Kd.R_drewN | apply Kd.R_drew)); exact Kd.R_mono HO425.out (fun _ hk => hk.2)), (by (with_reducible repeat (first | apply Kd.R_alloc | apply Kd.R_drewN | apply Kd.R_drew)); exact Kd.R_mono HO431.out (fun _ hk => hk.2)), (kb BK414.out), (kB1 HB.out GE414.out)⟩)
       skip
       rintro ⟨v424, v430⟩ w88 ⟨hS_, h0_, h1_, h2_, h3_⟩
       have n0_ : Aside0 (Kd.R (Kd.int .u8) 5 w88 w.heap.size (fun k_ => some k_ ≠ (v430 : Value).ownBlock) v424 y423) := ⟨h0_⟩
       have n1_ : Aside0 (Kd.R (Kd.int .u8) 5 w88 w.heap.size (fun k_ => some k_ ≠ (v424 : Value).ownBlock) v430 y429) := ⟨h1_⟩
       have n2_ : Aside0 (w88.heap[gb414]? = some (.cells #[.int .i64 d0, .int .i64 d1, .int .i64 d2, .int .i64 d3, .bool d4, .bool d5, .int .i64 d6, .bool d7, .int .u64 d8, .int .u64 d9, .bool d10, .int .u64 d11, .int .u64 d12, .slice A0_13 l0_13.length c0_13, .string d14] 28 (0, 0))) := ⟨h2_⟩
       have n3_ : Aside0 (Below w.heap.size w w88) := ⟨h3_⟩
       clear BK414
       clear HB
       clear h0_ h1_ h2_ h3_
       have HO425 := n0_
       have HO431 := n1_
       have BK414 := n2_
       have HB := n3_
       clear n0_ n1_ n2_ n3_
       have hHeld : h15 w88 gb414 (.int .i64 d0) (.int .i64 d1) (.int .i64 d2) (.int .i64 d3) (.bool d4) (.bool d5) (.int .i64 d6) (.bool d7) (.int .u64 d8) (.int .u64 d9) (.bool d10) (.int .u64 d11) (.int .u64 d12) (.slice A0_13 l0_13.length c0_13) (.string d14) := hS_
       refine norm_ (a' := ?_) ?_ ?_
       rotate_left
       ·simp only [putAll, Act.put, sA, sZ, sS]
        rfl
       refine one_ (i := 8) (N := some 105) #[I, I, I, I, I, I, I, I, I, I, I, I, I, I, I, O, I, I, I, O, I, I, O, I, I, I, I, I, I, I, I, O, O] rfl rfl (one_of HT_.out (by kernel_rfl)) (by decide) (fun K hK => ?_)
       have hcv89 := own_string (P := Try.prog) Try.underlying46 Try.underlying5 Try.underlying9 (Kd.own_of_R HO425.out)
       refine value_ (w1 := ?_) (v := ?_) (by rfl) rfl ?_ ?_
       rotate_left 2
       ·go_simp
        constructor
        ·rfl
        rfl
       clear hcv89
       refine hK.out _ _ (cells_15 BK414.out) (fun hHeld => ?_)
       clear hK K
       refine nP ?_
       refine kP 15 112 #[I, I, I, I, I, I, I, I, I, I, I, I, I, I, I, I, I, I, I, O, I, I, O, I, I, I, I, I, I, I, I, O, O] ?_ (any_of HT_.out (by kernel_rfl))
       refine kP 19 116 #[I, I, I, I, I, I, I, I, I, I, I, I, I, I, I, I, I, I, I, I, I, I, O, I, I, I, I, I, I, I, I, O, O] ?_ (any_of HT_.out (by kernel_rfl))
       refine kP 22 119 #[I, I, I, I, I, I, I, I, I, I, I, I, I, I, I, I, I, I, I, I, I, I, I, I, I, I, I, I, I, I, I, O, O] ?_ (any_of HT_.out (by kernel_rfl))
       exact nJ (hJ7_8_14_18_21_29_30 (v424, v430) _ ⟨hHeld, (kR HO425.out), (kR HO431.out), (kb BK414.out), (kB1 HB.out GE414.out)⟩)
      skip
      rintro ⟨v424, v430⟩ w88 ⟨hS_, h0_, h1_, h2_, h3_⟩
      have n0_ : Aside0 (Kd.R (Kd.int .u8) 5 w88 w.heap.size (fun k_ => some k_ ≠ (v430 : Value).ownBlock) v424 y423) := ⟨h0_⟩
      have n1_ : Aside0 (Kd.R (Kd.int .u8) 5 w88 w.heap.size (fun k_ => some k_ ≠ (v424 : Value).ownBlock) v430 y429) := ⟨h1_⟩
      have n2_ : Aside0 (w88.heap[gb414]? = some (.cells #[.int .i64 d0, .int .i64 d1, .int .i64 d2, .int .i64 d3, .bool d4, .bool d5, .int .i64 d6, .bool d7, .int .u64 d8, .int .u64 d9, .bool d10, .int .u64 d11, .int .u64 d12, .slice A0_13 l0_13.length c0_13, .string d14] 28 (0, 0))) := ⟨h2_⟩
      have n3_ : Aside0 (Below w.heap.size w w88) := ⟨h3_⟩
      clear BK414
      clear HB
      clear h0_ h1_ h2_ h3_
      have HO425 := n0_
      have HO431 := n1_
      have BK414 := n2_
      have HB := n3_
      clear n0_ n1_ n2_ n3_
      have hHeld : h15 w88 gb414 (.int .i64 d0) (.int .i64 d1) (.int .i64 d2) (.int .i64 d3) (.bool d4) (.bool d5) (.int .i64 d6) (.bool d7) (.int .u64 d8) (.int .u64 d9) (.bool d10) (.int .u64 d11) (.int .u64 d12) (.slice A0_13 l0_13.length c0_13) (.string d14) := hS_
      refine norm_ (a' := ?_) ?_ ?_
      rotate_left
      ·simp only [putAll, Act.put, sA, sZ, sS]
       rfl
      refine one_ (i := 21) (N := some 118) #[I, I, I, I, I, I, I, I, I, I, I, I, I, I, I, I, I, I, I, I, I, I, O, I, I, I, I, I, I, I, I, O, O] rfl rfl (one_of HT_.out (by kernel_rfl)) (by decide) (fun K hK => ?_)
      refine goes_ Try.func44 (by kernel_rfl) rfl #[.int .i64 x6_57, .int .i64 2] (by rfl) rfl rfl kA ?_
      with_reducible refine (intrusionref01_Put.calls kj57 x6_57 2 t428 _ A65.out).mono ?_
      rintro e w89 ⟨rfl, hb⟩
      refine ⟨_, rfl, ?_⟩
      replace HO425 := As (Kd.R_below (kR HO425.out) hb)
      replace HO431 := As (Kd.R_below (kR HO431.out) hb)
      replace BK414 := As (blk_below (kb BK414.out) hb)
      replace HB := As (below_step (kB1 HB.out GE414.out) hb)
      (try clear hb)
      (try clear hb2)
      (try clear hk)
      (try clear hi)
      refine hK.out _ _ (cells_15 BK414.out) (fun hHeld => ?_)
      clear hK K
      refine nP ?_
      refine kP 22 119 #[I, I, I, I, I, I, I, I, I, I, I, I, I, I, I, I, I, I, I, I, I, I, I, I, I, I, I, I, I, I, I, O, O] ?_ (any_of HT_.out (by kernel_rfl))
      exact nJ (hJ7_8_14_18_21_29_30 (v424, v430) _ ⟨hHeld, (kR HO425.out), (kR HO431.out), (kb BK414.out), (kB1 HB.out GE414.out)⟩)
     skip
     rintro ⟨v424, v430⟩ w88 ⟨hS_, h0_, h1_, h2_, h3_⟩
     have n0_ : Aside0 (Kd.R (Kd.int .u8) 5 w88 w.heap.size (fun k_ => some k_ ≠ (v430 : Value).ownBlock) v424 y423) := ⟨h0_⟩
     have n1_ : Aside0 (Kd.R (Kd.int .u8) 5 w88 w.heap.size (fun k_ => some k_ ≠ (v424 : Value).ownBlock) v430 y429) := ⟨h1_⟩
     have n2_ : Aside0 (w88.heap[gb414]? = some (.cells #[.int .i64 d0, .int .i64 d1, .int .i64 d2, .int .i64 d3, .bool d4, .bool d5, .int .i64 d6, .bool d7, .int .u64 d8, .int .u64 d9, .bool d10, .int .u64 d11, .int .u64 d12, .slice A0_13 l0_13.length c0_13, .string d14] 28 (0, 0))) := ⟨h2_⟩
     have n3_ : Aside0 (Below w.heap.size w w88) := ⟨h3_⟩
     clear BK414
     clear HB
     clear h0_ h1_ h2_ h3_
     have HO425 := n0_
     have HO431 := n1_
     have BK414 := n2_
     have HB := n3_
     clear n0_ n1_ n2_ n3_
     have hHeld : h15 w88 gb414 (.int .i64 d0) (.int .i64 d1) (.int .i64 d2) (.int .i64 d3) (.bool d4) (.bool d5) (.int .i64 d6) (.bool d7) (.int .u64 d8) (.int .u64 d9) (.bool d10) (.int .u64 d11) (.int .u64 d12) (.slice A0_13 l0_13.length c0_13) (.string d14) := hS_
     refine norm_ (a' := ?_) ?_ ?_
     rotate_left
     ·simp only [putAll, Act.put, sA, sZ, sS]
      rfl
     refine one_ (i := 30) (N := some 127) #[I, I, I, I, I, I, I, I, I, I, I, I, I, I, I, I, I, I, I, I, I, I, I, I, I, I, I, I, I, I, I, O, O] rfl rfl (one_of HT_.out (by kernel_rfl)) (by decide) (fun K hK => ?_)
     have hcv89 := own_string (P := Try.prog) Try.underlying46 Try.underlying5 Try.underlying9 (Kd.own_of_R HO431.out)
     refine value_ (w1 := ?_) (v := ?_) (by rfl) rfl ?_ ?_
     rotate_left 2
     ·go_simp
      constructor
      ·rfl
      rfl
     clear hcv89
     refine hK.out _ _ (cells_15 BK414.out) (fun hHeld => ?_)
     clear hK K
     refine nP ?_
     exact nJ (hJ7_8_14_18_21_29_30 (v424, v430) _ ⟨hHeld, (kR HO425.out), (kR HO431.out), (kb BK414.out), (kB1 HB.out GE414.out)⟩)
    rintro ⟨v424, v430⟩ w89 ⟨hS_, h0_, h1_, h2_, h3_⟩
    have n0_ : Aside0 (Kd.R (Kd.int .u8) 5 w89 w.heap.size (fun k_ => some k_ ≠ (v430 : Value).ownBlock) v424 y423) := ⟨h0_⟩
    have n1_ : Aside0 (Kd.R (Kd.int .u8) 5 w89 w.heap.size (fun k_ => some k_ ≠ (v424 : Value).ownBlock) v430 y429) := ⟨h1_⟩
    have n2_ : Aside0 (w89.heap[gb414]? = some (.cells #[.int .i64 d0, .int .i64 d1, .int .i64 d2, .int .i64 d3, .bool d4, .bool d5, .int .i64 d6, .bool d7, .int .u64 d8, .int .u64 d9, .bool d10, .int .u64 d11, .int .u64 d12, .slice A0_13 l0_13.length c0_13, .string d14] 28 (0, 0))) := ⟨h2_⟩
    have n3_ : Aside0 (Below w.heap.size w w89) := ⟨h3_⟩
    clear BK414
    clear HB
    clear h0_ h1_ h2_ h3_
    have HO425 := n0_
    have HO431 := n1_
    have BK414 := n2_
    have HB := n3_
    clear n0_ n1_ n2_ n3_
    have hHeld : h15 w89 gb414 (.int .i64 d0) (.int .i64 d1) (.int .i64 d2) (.int .i64 d3) (.bool d4) (.bool d5) (.int .i64 d6) (.bool d7) (.int .u64 d8) (.int .u64 d9) (.bool d10) (.int .u64 d11) (.int .u64 d12) (.slice A0_13 l0_13.length c0_13) (.string d14) := hS_
    refine norm_ (a' := ?_) ?_ ?_
    rotate_left
    ·simp only [putAll, Act.put, sA, sZ, sS]
     rfl
    refine kP 31 128 #[I, I, I, I, I, I, I, I, I, I, I, I, I, I, I, I, I, I, I, I, I, I, I, I, I, I, I, I, I, I, I, I, O] ?_ (any_of HT_.out (by kernel_rfl))
    refine kP 32 7 #[I, I, I, I, I, I, I, I, I, I, I, I, I, I, I, I, I, I, I, I, I, I, I, I, I, I, I, I, I, I, I, I, I] ?_ (any_of HT_.out (by kernel_rfl))
    refine done_ (done_of HT_.out (by kernel_rfl)) ?_
    try go_wp2
    replace HO425 := As (Kd.R_drew HO425.out)
    replace HO431 := As (Kd.R_drew HO431.out)
    replace BK414 := As (blk_drew BK414.out)
    replace HB := As (below_drew1 HB.out)
    refine start_ (n := 10) (S := fun w' => h15 w' gb414 (.int .i64 d0) (.int .i64 d1) (.int .i64 d2) (.int .i64 d3) (.bool d4) (.bool d5) (.int .i64 d6) (.bool d7) (.int .u64 d8) (.int .u64 d9) (.bool d10) (.int .u64 d11) (.int .u64 d12) (.slice A0_13 l0_13.length c0_13) (.string d14)) (ds := []) #[O, O, O, O, O, O, O, O, O, O] (by kernel_rfl) rfl rfl (cells_15 BK414.out) (fun hHeld => ?_); refine with_tabW intrusionref11_Encode.tab15 intrusionref11_Encode.bits15 (fun HT_ HW_ => ?_)
    generalize w89.drew = w90 at HO425 HO431 BK414 HB hHeld ⊢
    refine kP 0 129 #[I, O, O, O, O, O, O, O, O, O] ?_ (any_of HT_.out (by kernel_rfl))
    refine kP 3 132 #[I, O, O, I, O, O, O, O, O, O] ?_ (any_of HT_.out (by kernel_rfl))
    refine kP 7 136 #[I, O, O, I, O, O, O, I, O, O] ?_ (any_of HT_.out (by kernel_rfl))
    refine take_ (i := 1) (N := some 130) (v := ?_) (a' := ?_) #[I, I, O, I, O, O, O, I, O, O] rfl rfl (take_ofW HT_.out HW_.out (by kernel_rfl)) (fun _ _ _ h => h) (Or.inl ⟨by rfl, ?_⟩) hHeld ?_ ?_
    rotate_left
    ·rintro w' ⟨s0, s1, s2, s3, s4, s5, s6, s7, s8, s9, s10, s11, s12, s13, s14⟩
     go_simp
     with_reducible rfl
    rotate_left
    ·simp only [Act.put, sA, sZ, sS, i64_w, i32_w]
     rfl
    refine take_ (i := 4) (N := some 133) (v := ?_) (a' := ?_) #[I, I, O, I, I, O, O, I, O, O] rfl rfl (take_ofW HT_.out HW_.out (by kernel_rfl)) (fun _ _ _ h => h) (Or.inl ⟨by rfl, ?_⟩) hHeld ?_ ?_
    rotate_left
    ·rintro w' ⟨s0, s1, s2, s3, s4, s5, s6, s7, s8, s9, s10, s11, s12, s13, s14⟩
     go_simp
     with_reducible rfl
    rotate_left
    ·simp only [Act.put, sA, sZ, sS, i64_w, i32_w]
     rfl
    refine one_ (i := 2) (N := some 131) #[I, I, I, I, I, O, O, I, O, O] rfl rfl (one_of HT_.out (by kernel_rfl)) (by decide) (fun K hK => ?_)
    refine goes_ Try.func45 (by kernel_rfl) rfl #[.agg #[.bool d7, .int .u64 d8, .int .u64 d9]] (by rfl) rfl rfl kA ?_
    with_reducible refine (intrusionref06_Bytes.calls kj57 d7 d8 d9 t432 _ A68.out).mono ?_
    rintro e w91 ⟨rfl, hb⟩
    refine ⟨_, rfl, ?_⟩
    replace HO425 := As (Kd.R_below (kR HO425.out) hb)
    replace HO431 := As (Kd.R_below (kR HO431.out) hb)
    replace BK414 := As (blk_below (kb BK414.out) hb)
    replace HB := As (below_step (kB1 HB.out GE414.out) hb)
    (try clear hb)
    (try clear hb2)
    (try clear hk)
    (try clear hi)
    refine hK.out _ _ (cells_15 BK414.out) (fun hHeld => ?_)
    clear hK K
    refine nP ?_
    refine one_ (i := 5) (N := some 134) #[I, I, I, I, I, I, O, I, O, O] rfl rfl (one_of HT_.out (by kernel_rfl)) (by decide) (fun K hK => ?_)
    refine goes_ Try.func45 (by kernel_rfl) rfl #[.agg #[.bool d10, .int .u64 d11, .int .u64 d12]] (by rfl) rfl rfl kA ?_
    with_reducible refine (intrusionref06_Bytes.calls kj57 d10 d11 d12 t433 _ A69.out).mono ?_
    rintro e w92 ⟨rfl, hb⟩
    refine ⟨_, rfl, ?_⟩
    replace HO425 := As (Kd.R_below (kR HO425.out) hb)
    replace HO431 := As (Kd.R_below (kR HO431.out) hb)
    replace BK414 := As (blk_below (kb BK414.out) hb)
    replace HB := As (below_step (kB1 HB.out GE414.out) hb)
    (try clear hb)
    (try clear hb2)
    (try clear hk)
    (try clear hi)
    refine hK.out _ _ (cells_15 BK414.out) (fun hHeld => ?_)
    clear hK K
    refine nP ?_
    refine kP 6 135 #[I, I, I, I, I, I, I, I, O, O] ?_ (any_of HT_.out (by kernel_rfl))
    refine kP 8 137 #[I, I, I, I, I, I, I, I, I, O] ?_ (any_of HT_.out (by kernel_rfl))
    refine kP 9 8 #[I, I, I, I, I, I, I, I, I, I] ?_ (any_of HT_.out (by kernel_rfl))
    refine done_ (done_of HT_.out (by kernel_rfl)) ?_
    try go_wp2_with (first | ((with_reducible refine gate_callee (f := 31) rfl ?_); refine goesL_ (some 142) rfl rfl Try.func31 (by kernel_rfl) rfl #[.string (((((((strOfNums y423) ++ t426) ++ t427) ++ t428) ++ (strOfNums y429)) ++ (⟨#[0, 0]⟩ : ByteArray)) ++ ((t432 ++ t433) ++ t422))] rfl kA ?_; (with_reducible refine (intrusionref02_Sum.calls kj57 (((((((strOfNums y423) ++ t426) ++ t427) ++ t428) ++ (strOfNums y429)) ++ (⟨#[0, 0]⟩ : ByteArray)) ++ ((t432 ++ t433) ++ t422)) t434 _ A74.out).mono ?_); rintro e w' ⟨rfl, ⟨nd, rfl⟩⟩; refine ⟨_, rfl, ?_⟩))
    (try (rw [drewN_self w92]; generalize hq_ : World.drewN w92 _ = w92; have n0_ : Aside0 (Kd.R (Kd.int .u8) 5 w92 w.heap.size (fun k_ => some k_ ≠ (v430 : Value).ownBlock) v424 y423) := ⟨by rw [← hq_]; exact (kR HO425.out)⟩; have n1_ : Aside0 (Kd.R (Kd.int .u8) 5 w92 w.heap.size (fun k_ => some k_ ≠ (v424 : Value).ownBlock) v430 y429) := ⟨by rw [← hq_]; exact (kR HO431.out)⟩; have n2_ : Aside0 (w92.heap[gb414]? = some (.cells #[.int .i64 d0, .int .i64 d1, .int .i64 d2, .int .i64 d3, .bool d4, .bool d5, .int .i64 d6, .bool d7, .int .u64 d8, .int .u64 d9, .bool d10, .int .u64 d11, .int .u64 d12, .slice A0_13 l0_13.length c0_13, .string d14] 28 (0, 0))) := ⟨by rw [← hq_]; exact (kb BK414.out)⟩; have n3_ : Aside0 (Below w.heap.size w w92) := ⟨by rw [← hq_]; exact (kB1 HB.out GE414.out)⟩; clear HO425 HO431 BK414 HB hq_; have HO425 := n0_; have HO431 := n1_; have BK414 := n2_; have HB := n3_; clear n0_ n1_ n2_ n3_))
    replace HO425 := As (Kd.R_drew HO425.out)
    replace HO431 := As (Kd.R_drew HO431.out)
    replace BK414 := As (blk_drew BK414.out)
    replace HB := As (below_drew1 HB.out)
    refine start_ (n := 11) (S := fun w' => h15 w' gb414 (.int .i64 d0) (.int .i64 d1) (.int .i64 d2) (.int .i64 d3) (.bool d4) (.bool d5) (.int .i64 d6) (.bool d7) (.int .u64 d8) (.int .u64 d9) (.bool d10) (.int .u64 d11) (.int .u64 d12) (.slice A0_13 l0_13.length c0_13) (.string d14)) (ds := []) #[O, O, O, O, O, O, O, O, O, O, O] (by kernel_rfl) rfl rfl (cells_15 BK414.out) (fun hHeld => ?_); refine with_tabW intrusionref11_Encode.tab17 intrusionref11_Encode.bits17 (fun HT_ HW_ => ?_)
    generalize w92.drew = w93 at HO425 HO431 BK414 HB hHeld ⊢
    refine kP 0 143 #[I, O, O, O, O, O, O, O, O, O, O] ?_ (any_of HT_.out (by kernel_rfl))
    refine kP 1 144 #[I, I, O, O, O, O, O, O, O, O, O] ?_ (any_of HT_.out (by kernel_rfl))
    refine kP 4 147 #[I, I, O, O, I, O, O, O, O, O, O] ?_ (any_of HT_.out (by kernel_rfl))
    refine kP 6 149 #[I, I, O, O, I, O, I, O, O, O, O] ?_ (any_of HT_.out (by kernel_rfl))
    refine take_ (i := 7) (N := some 150) (v := ?_) (a' := ?_) #[I, I, O, O, I, O, I, I, O, O, O] rfl rfl (take_ofW HT_.out HW_.out (by kernel_rfl)) (fun _ _ _ h => h) (Or.inl ⟨by rfl, ?_⟩) hHeld ?_ ?_
    rotate_left
    ·rintro w' ⟨s0, s1, s2, s3, s4, s5, s6, s7, s8, s9, s10, s11, s12, s13, s14⟩
     go_simp
     with_reducible rfl
    rotate_left
    ·simp only [Act.put, sA, sZ, sS, i64_w, i32_w]
     rfl
    refine one_ (i := 2) (N := some 145) #[I, I, I, O, I, O, I, I, O, O, O] rfl rfl (one_of HT_.out (by kernel_rfl)) (by decide) (fun K hK => ?_)
    refine goes_ Try.func44 (by kernel_rfl) rfl #[.int .i64 t434, .int .i64 2] (by rfl) rfl rfl kA ?_
    with_reducible refine (intrusionref01_Put.calls kj57 t434 2 t435 _ A75.out).mono ?_
    rintro e w94 ⟨rfl, hb⟩
    refine ⟨_, rfl, ?_⟩
    replace HO425 := As (Kd.R_below (kR HO425.out) hb)
    replace HO431 := As (Kd.R_below (kR HO431.out) hb)
    replace BK414 := As (blk_below (kb BK414.out) hb)
    replace HB := As (below_step (kB1 HB.out GE414.out) hb)
    (try clear hb)
    (try clear hb2)
    (try clear hk)
    (try clear hi)
    refine hK.out _ _ (cells_15 BK414.out) (fun hHeld => ?_)
    clear hK K
    refine nP ?_
    refine kP 3 146 #[I, I, I, I, I, O, I, I, O, O, O] ?_ (any_of HT_.out (by kernel_rfl))
    refine kP 5 148 #[I, I, I, I, I, I, I, I, O, O, O] ?_ (any_of HT_.out (by kernel_rfl))
    refine kP 8 151 #[I, I, I, I, I, I, I, I, I, O, O] ?_ (any_of HT_.out (by kernel_rfl))
    refine kP 9 2 #[I, I, I, I, I, I, I, I, I, I, O] ?_ (any_of HT_.out (by kernel_rfl))
    refine kP 10 3 #[I, I, I, I, I, I, I, I, I, I, I] ?_ (any_of HT_.out (by kernel_rfl))
    refine done_ (done_of HT_.out (by kernel_rfl)) ?_
    try go_wp2
    go_ret2
    exact ⟨kE, by exact kB1 HB.out GE414.out⟩

end Go.Proofs.Ytobioaommmgehaa.Z
-- short
-- short2
