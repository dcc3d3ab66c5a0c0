/- What the functions of the translation that this claim's statement reaches compute, each proved by its walk. Written by xprint.py, a program of this claim's author, run over the kit's printer. -/
import Derived.Test.YtljboandbjahdaaX0
import Derived.Test.YtljboandbjahdaaX14
import Derived.Test.YtljboandbjahdaaX15
namespace Go.Proofs.Ytljboandbjahdaa.X
open Go.RowKit Go.Proofs.YtljboandbjahdaaW.PrintWords Go.Proofs.YtljboandbjahdaaW.PrintLast Go.Proofs.YtljboandbjahdaaW.PrintMore
attribute [local go_sem] max2_int min2_int max_two min_two max_three min_three max_four min_four   -- for this text's walks alone
set_option linter.unusedVariables false
set_option linter.unusedSimpArgs false

/-! ### intrusionref12_Encode: function 16 -/
mutual
def intrusionref12_Encode.l0 : Nat → Int → Int → Int → Int → Int → Bool → Int → Int → Bool → Int → Int → List (S60) → Bool → Int → Int → Bool → ByteArray → Option (ByteArray × Int)
 | 0, _, _, _, _, _, _, _, _, _, _, _, _, _, _, _, _, _ => none
 | k + 1, x4, b0, b1, b2, b3, b4, b5, b6, b7, b8, b9, b10, b11, b12, b13, b14, b15 => if x4 < (b10.length : Int) then (if 0 ≤ x4 then ((intrusionref12_extension.f ((rd_T60 b10 x4).f0)).bind fun t463 => (if t463 = true then (if ((rd_T60 b10 x4).f0) = 0 then (if x4 > 0 then (intrusionref12_Encode.j1 k x4 true b0 b1 b2 b3 b4 b5 b6 b7 b8 b9 b10 b11 b12 b13 b14 b15) else (if ((((rd_T60 b10 x4).f1).size : Int) % 8) = 6 then (intrusionref12_Encode.j1 k x4 (decide ((((rd_T60 b10 x4).f1).size : Int) > 2046)) b0 b1 b2 b3 b4 b5 b6 b7 b8 b9 b10 b11 b12 b13 b14 b15) else (intrusionref12_Encode.j1 k x4 true b0 b1 b2 b3 b4 b5 b6 b7 b8 b9 b10 b11 b12 b13 b14 b15))) else (if ((((rd_T60 b10 x4).f1).size : Int) % 8) = 6 then (intrusionref12_Encode.j1 k x4 (decide ((((rd_T60 b10 x4).f1).size : Int) > 2046)) b0 b1 b2 b3 b4 b5 b6 b7 b8 b9 b10 b11 b12 b13 b14 b15) else (intrusionref12_Encode.j1 k x4 true b0 b1 b2 b3 b4 b5 b6 b7 b8 b9 b10 b11 b12 b13 b14 b15))) else (intrusionref12_Encode.j1 k x4 true b0 b1 b2 b3 b4 b5 b6 b7 b8 b9 b10 b11 b12 b13 b14 b15))) else (none)) else (if (b15.size : Int) > 65535 then (some ((⟨#[]⟩ : ByteArray), 3)) else (if b11 = true then (if b14 = true then (intrusionref12_Encode.j2 k b3 b15 1 b0 b1 b2 b3 b4 b5 b6 b7 b8 b9 b10 b11 b12 b13 b14 b15) else (intrusionref12_Encode.j2 k b3 b15 0 b0 b1 b2 b3 b4 b5 b6 b7 b8 b9 b10 b11 b12 b13 b14 b15)) else (intrusionref12_Encode.j3 k b3 b15 b0 b1 b2 b3 b4 b5 b6 b7 b8 b9 b10 b11 b12 b13 b14 b15)))
def intrusionref12_Encode.j1 : Nat → Int → Bool → Int → Int → Int → Int → Bool → Int → Int → Bool → Int → Int → List (S60) → Bool → Int → Int → Bool → ByteArray → Option (ByteArray × Int)
 | 0, _, _, _, _, _, _, _, _, _, _, _, _, _, _, _, _, _, _ => none
 | k + 1, x4, x55, b0, b1, b2, b3, b4, b5, b6, b7, b8, b9, b10, b11, b12, b13, b14, b15 => if x55 = true then (some ((⟨#[]⟩ : ByteArray), 2)) else (intrusionref12_Encode.l0 k (wrap64 (x4 + 1)) b0 b1 b2 b3 b4 b5 b6 b7 b8 b9 b10 b11 b12 b13 b14 b15)
def intrusionref12_Encode.j3 : Nat → Int → ByteArray → Int → Int → Int → Int → Bool → Int → Int → Bool → Int → Int → List (S60) → Bool → Int → Int → Bool → ByteArray → Option (ByteArray × Int)
 | 0, _, _, _, _, _, _, _, _, _, _, _, _, _, _, _, _, _, _ => none
 | k + 1, x6, x7, b0, b1, b2, b3, b4, b5, b6, b7, b8, b9, b10, b11, b12, b13, b14, b15 => intrusionref12_Encode.l1 k x6 x7 (wrap64 ((b10.length : Int) - 1)) b0 b1 b2 b3 b4 b5 b6 b7 b8 b9 b10 b11 b12 b13 b14 b15
def intrusionref12_Encode.l1 : Nat → Int → ByteArray → Int → Int → Int → Int → Int → Bool → Int → Int → Bool → Int → Int → List (S60) → Bool → Int → Int → Bool → ByteArray → Option (ByteArray × Int)
 | 0, _, _, _, _, _, _, _, _, _, _, _, _, _, _, _, _, _, _, _ => none
 | k + 1, x6, x7, x9, b0, b1, b2, b3, b4, b5, b6, b7, b8, b9, b10, b11, b12, b13, b14, b15 => if x9 ≥ 0 then (if 0 ≤ x9 then (if x9 < (b10.length : Int) then ((intrusionref12_put.f k x6 1).bind fun t470 => ((intrusionref12_put.f k (wrap64 (Int.tdiv (wrap64 ((((rd_T60 b10 x9).f1).size : Int) - 6)) 8)) 1).bind fun t471 => (if t470.size + t471.size ≤ 9223372036854775807 then (if (t470 ++ t471).size + ((rd_T60 b10 x9).f1).size ≤ 9223372036854775807 then (if ((t470 ++ t471) ++ ((rd_T60 b10 x9).f1)).size + x7.size ≤ 9223372036854775807 then (intrusionref12_Encode.l1 k ((rd_T60 b10 x9).f0) (((t470 ++ t471) ++ ((rd_T60 b10 x9).f1)) ++ x7) (wrap64 (x9 - 1)) b0 b1 b2 b3 b4 b5 b6 b7 b8 b9 b10 b11 b12 b13 b14 b15) else (none)) else (none)) else (none)))) else (none)) else (none)) else (if (x7.size : Int) > 65535 then (some ((⟨#[]⟩ : ByteArray), 3)) else ((intrusionref12_put.f k (Go.bits .or .i64 (Go.bits .or .i64 1610612736 (wrap64 (b0 * 1048576))) b1) 4).bind fun t472 => ((intrusionref12_put.f k (x7.size : Int) 2).bind fun t473 => (if t472.size + t473.size ≤ 9223372036854775807 then ((intrusionref12_put.f k x6 1).bind fun t474 => (if (t472 ++ t473).size + t474.size ≤ 9223372036854775807 then ((intrusionref12_put.f k b2 1).bind fun t475 => (if ((t472 ++ t473) ++ t474).size + t475.size ≤ 9223372036854775807 then ((intrusionref06_Bytes.f k b4 b5 b6).bind fun t476 => (if (((t472 ++ t473) ++ t474) ++ t475).size + t476.size ≤ 9223372036854775807 then ((intrusionref06_Bytes.f k b7 b8 b9).bind fun t477 => (if ((((t472 ++ t473) ++ t474) ++ t475) ++ t476).size + t477.size ≤ 9223372036854775807 then (if (((((t472 ++ t473) ++ t474) ++ t475) ++ t476) ++ t477).size + x7.size ≤ 9223372036854775807 then (some ((((((t472 ++ t473) ++ t474) ++ t475) ++ t476) ++ t477) ++ x7, 0)) else (none)) else (none))) else (none))) else (none))) else (none))) else (none)))))
def intrusionref12_Encode.j2 : Nat → Int → ByteArray → Int → Int → Int → Int → Int → Bool → Int → Int → Bool → Int → Int → List (S60) → Bool → Int → Int → Bool → ByteArray → Option (ByteArray × Int)
 | 0, _, _, _, _, _, _, _, _, _, _, _, _, _, _, _, _, _, _, _ => none
 | k + 1, x6, x7, x8, b0, b1, b2, b3, b4, b5, b6, b7, b8, b9, b10, b11, b12, b13, b14, b15 => (intrusionref12_put.f k x6 1).bind fun t464 => ((intrusionref12_put.f k 0 1).bind fun t465 => (if t464.size + t465.size ≤ 9223372036854775807 then ((intrusionref12_put.f k (wrap64 (b13 + x8)) 2).bind fun t466 => (if (t464 ++ t465).size + t466.size ≤ 9223372036854775807 then ((intrusionref12_put.f k b12 4).bind fun t467 => (if ((t464 ++ t465) ++ t466).size + t467.size ≤ 9223372036854775807 then (if (((t464 ++ t465) ++ t466) ++ t467).size + x7.size ≤ 9223372036854775807 then (intrusionref12_Encode.j3 k 44 ((((t464 ++ t465) ++ t466) ++ t467) ++ x7) b0 b1 b2 b3 b4 b5 b6 b7 b8 b9 b10 b11 b12 b13 b14 b15) else (none)) else (none))) else (none))) else (none)))
end
def intrusionref12_Encode.f (k : Nat) (d0 : Int) (d1 : Int) (d2 : Int) (d3 : Int) (d4 : Bool) (d5 : Int) (d6 : Int) (d7 : Bool) (d8 : Int) (d9 : Int) (l0_10 : List (S60)) (d11 : Bool) (d12 : Int) (d13 : Int) (d14 : Bool) (d15 : ByteArray) : Option (ByteArray × Int) := (intrusionref12_ranges.f k d0 d1 d2 d3 d4 d5 d6 d7 d8 d9 l0_10 d11 d12 d13 d14 d15).bind fun t460 => (if t460 = true then (if (l0_10.length : Int) > 8 then (some ((⟨#[]⟩ : ByteArray), 9)) else (intrusionref12_Encode.l0 k 0 d0 d1 d2 d3 d4 d5 d6 d7 d8 d9 l0_10 d11 d12 d13 d14 d15)) else (some ((⟨#[]⟩ : ByteArray), 4)))
theorem intrusionref12_Encode.mono_l : ∀ k, (∀ y0 y1 y2 y3 y4 y5 y6 y7 y8 y9 y10 y11 y12 y13 y14 y15 y16, LeO (intrusionref12_Encode.l0 k y0 y1 y2 y3 y4 y5 y6 y7 y8 y9 y10 y11 y12 y13 y14 y15 y16) (intrusionref12_Encode.l0 (k + 1) y0 y1 y2 y3 y4 y5 y6 y7 y8 y9 y10 y11 y12 y13 y14 y15 y16)) ∧ (∀ y0 y1 y2 y3 y4 y5 y6 y7 y8 y9 y10 y11 y12 y13 y14 y15 y16 y17, LeO (intrusionref12_Encode.j1 k y0 y1 y2 y3 y4 y5 y6 y7 y8 y9 y10 y11 y12 y13 y14 y15 y16 y17) (intrusionref12_Encode.j1 (k + 1) y0 y1 y2 y3 y4 y5 y6 y7 y8 y9 y10 y11 y12 y13 y14 y15 y16 y17)) ∧ (∀ y0 y1 y2 y3 y4 y5 y6 y7 y8 y9 y10 y11 y12 y13 y14 y15 y16 y17, LeO (intrusionref12_Encode.j3 k y0 y1 y2 y3 y4 y5 y6 y7 y8 y9 y10 y11 y12 y13 y14 y15 y16 y17) (intrusionref12_Encode.j3 (k + 1) y0 y1 y2 y3 y4 y5 y6 y7 y8 y9 y10 y11 y12 y13 y14 y15 y16 y17)) ∧ (∀ y0 y1 y2 y3 y4 y5 y6 y7 y8 y9 y10 y11 y12 y13 y14 y15 y16 y17 y18, LeO (intrusionref12_Encode.l1 k y0 y1 y2 y3 y4 y5 y6 y7 y8 y9 y10 y11 y12 y13 y14 y15 y16 y17 y18) (intrusionref12_Encode.l1 (k + 1) y0 y1 y2 y3 y4 y5 y6 y7 y8 y9 y10 y11 y12 y13 y14 y15 y16 y17 y18)) ∧ (∀ y0 y1 y2 y3 y4 y5 y6 y7 y8 y9 y10 y11 y12 y13 y14 y15 y16 y17 y18, LeO (intrusionref12_Encode.j2 k y0 y1 y2 y3 y4 y5 y6 y7 y8 y9 y10 y11 y12 y13 y14 y15 y16 y17 y18) (intrusionref12_Encode.j2 (k + 1) y0 y1 y2 y3 y4 y5 y6 y7 y8 y9 y10 y11 y12 y13 y14 y15 y16 y17 y18))
 | 0 => ⟨fun _ _ _ _ _ _ _ _ _ _ _ _ _ _ _ _ _ r h => by simp [intrusionref12_Encode.l0] at h, fun _ _ _ _ _ _ _ _ _ _ _ _ _ _ _ _ _ _ r h => by simp [intrusionref12_Encode.j1] at h, fun _ _ _ _ _ _ _ _ _ _ _ _ _ _ _ _ _ _ r h => by simp [intrusionref12_Encode.j3] at h, fun _ _ _ _ _ _ _ _ _ _ _ _ _ _ _ _ _ _ _ r h => by simp [intrusionref12_Encode.l1] at h, fun _ _ _ _ _ _ _ _ _ _ _ _ _ _ _ _ _ _ _ r h => by simp [intrusionref12_Encode.j2] at h⟩
 | k + 1 => by
  obtain ⟨ih0, ih1, ih2, ih3, ih4⟩ := intrusionref12_Encode.mono_l k
  refine ⟨?_, ?_, ?_, ?_, ?_⟩
  ·intro y0 y1 y2 y3 y4 y5 y6 y7 y8 y9 y10 y11 y12 y13 y14 y15 y16
   unfold intrusionref12_Encode.l0
   repeat' first | with_reducible first | apply ih0 | apply ih1 | apply ih2 | apply ih3 | apply ih4 | apply intrusionref06_Bytes.mono | apply intrusionref12_put.mono | apply intrusionref12_ranges.mono | apply LeO.refl | apply LeO.none | refine LeO.ite ?_ ?_ | refine LeO.bind ?_ (fun _ => ?_)
  ·intro y0 y1 y2 y3 y4 y5 y6 y7 y8 y9 y10 y11 y12 y13 y14 y15 y16 y17
   unfold intrusionref12_Encode.j1
   repeat' first | with_reducible first | apply ih0 | apply ih1 | apply ih2 | apply ih3 | apply ih4 | apply intrusionref06_Bytes.mono | apply intrusionref12_put.mono | apply intrusionref12_ranges.mono | apply LeO.refl | apply LeO.none | refine LeO.ite ?_ ?_ | refine LeO.bind ?_ (fun _ => ?_)
  ·intro y0 y1 y2 y3 y4 y5 y6 y7 y8 y9 y10 y11 y12 y13 y14 y15 y16 y17
   unfold intrusionref12_Encode.j3
   repeat' first | with_reducible first | apply ih0 | apply ih1 | apply ih2 | apply ih3 | apply ih4 | apply intrusionref06_Bytes.mono | apply intrusionref12_put.mono | apply intrusionref12_ranges.mono | apply LeO.refl | apply LeO.none | refine LeO.ite ?_ ?_ | refine LeO.bind ?_ (fun _ => ?_)
  ·intro y0 y1 y2 y3 y4 y5 y6 y7 y8 y9 y10 y11 y12 y13 y14 y15 y16 y17 y18
   unfold intrusionref12_Encode.l1
   repeat' first | with_reducible first | apply ih0 | apply ih1 | apply ih2 | apply ih3 | apply ih4 | apply intrusionref06_Bytes.mono | apply intrusionref12_put.mono | apply intrusionref12_ranges.mono | apply LeO.refl | apply LeO.none | refine LeO.ite ?_ ?_ | refine LeO.bind ?_ (fun _ => ?_)
  intro y0 y1 y2 y3 y4 y5 y6 y7 y8 y9 y10 y11 y12 y13 y14 y15 y16 y17 y18
  unfold intrusionref12_Encode.j2
  repeat' first | with_reducible first | apply ih0 | apply ih1 | apply ih2 | apply ih3 | apply ih4 | apply intrusionref06_Bytes.mono | apply intrusionref12_put.mono | apply intrusionref12_ranges.mono | apply LeO.refl | apply LeO.none | refine LeO.ite ?_ ?_ | refine LeO.bind ?_ (fun _ => ?_)
theorem intrusionref12_Encode.mono : ∀ a0 a1 a2 a3 a4 a5 a6 a7 a8 a9 a10 a11 a12 a13 a14 a15 k, LeO (intrusionref12_Encode.f k a0 a1 a2 a3 a4 a5 a6 a7 a8 a9 a10 a11 a12 a13 a14 a15) (intrusionref12_Encode.f (k + 1) a0 a1 a2 a3 a4 a5 a6 a7 a8 a9 a10 a11 a12 a13 a14 a15) := by
 intro a0 a1 a2 a3 a4 a5 a6 a7 a8 a9 a10 a11 a12 a13 a14 a15 k
 obtain ⟨ih0, ih1, ih2, ih3, ih4⟩ := intrusionref12_Encode.mono_l k
 unfold intrusionref12_Encode.f
 repeat' first | with_reducible first | apply ih0 | apply ih1 | apply ih2 | apply ih3 | apply ih4 | apply intrusionref06_Bytes.mono | apply intrusionref12_put.mono | apply intrusionref12_ranges.mono | apply LeO.refl | apply LeO.none | refine LeO.ite ?_ ?_ | refine LeO.bind ?_ (fun _ => ?_)
def intrusionref12_Encode.T19 : Bool × List (List Nat × List Nat) := (true, [([], []), ([0], [0]), ([1], []), ([1, 2], [1, 2]), ([], []), ([4], [4]), ([], []), ([5, 6], [5, 6]), ([7, 2], [7]), ([3, 8], [3, 8]), ([], []), ([10], [10]), ([11, 8], [11]), ([9, 12], [9, 12]), ([], []), ([13, 14], [13, 14]), ([15, 12, 0, 1, 2, 3, 4, 5, 6, 7, 8, 9, 10, 11, 12, 13, 14, 15], [14, 15])])
def intrusionref12_Encode.B19 : List Nat := [0, 1, 3, 7, 0, 16, 0, 112, 247, 511, 0, 1024, 3575, 8191, 0, 32767, 65535]
theorem intrusionref12_Encode.tab19 : rtab .any (opsOf Try.f16 19) = intrusionref12_Encode.T19 := by kernel_rfl
theorem intrusionref12_Encode.bits19 : waitsOk intrusionref12_Encode.T19.2 intrusionref12_Encode.B19 = true := by kernel_rfl
def intrusionref12_Encode.T25 : Bool × List (List Nat × List Nat) := (true, [([], []), ([0], [0]), ([], []), ([2], [2]), ([3], [3]), ([4], [4]), ([5], [5]), ([6, 1], [6]), ([1, 7], [1, 7]), ([], []), ([9], [9]), ([8, 10], [8, 10]), ([], []), ([11, 12], [11, 12]), ([13, 7, 0, 1, 2, 3, 4, 5, 6, 7, 8, 9, 10, 11, 12, 13], [12, 13])])
def intrusionref12_Encode.B25 : List Nat := [0, 1, 0, 4, 12, 28, 60, 127, 255, 0, 512, 2047, 0, 8191, 16383]
theorem intrusionref12_Encode.tab25 : rtab .any (opsOf Try.f16 25) = intrusionref12_Encode.T25 := by kernel_rfl
theorem intrusionref12_Encode.bits25 : waitsOk intrusionref12_Encode.T25.2 intrusionref12_Encode.B25 = true := by kernel_rfl
def intrusionref12_Encode.T29 : Bool × List (List Nat × List Nat) := (true, [([], []), ([0], [0]), ([1], [1]), ([2], [2]), ([], []), ([4], [4]), ([3, 5], [3, 5]), ([6], [6]), ([], []), ([8], [8]), ([9, 7], [9]), ([7, 10], [7, 10]), ([], []), ([12, 10], [12]), ([11, 13], [11, 13]), ([], []), ([15], [15]), ([16, 13], [16]), ([14, 17], [14, 17]), ([], []), ([19], [19]), ([20, 17], [20]), ([18, 21], [18, 21]), ([], []), ([23], [23]), ([24, 21], [24]), ([22, 25], [22, 25]), ([], []), ([26, 27], [26, 27]), ([28, 25, 0, 1, 2, 3, 4, 5, 6, 7, 8, 9, 10, 11, 12, 13, 14, 15, 16, 17, 18, 19, 20, 21, 22, 23, 24, 25, 26, 27, 28], [28]), ([29, 0, 1, 2, 3, 4, 5, 6, 7, 8, 9, 10, 11, 12, 13, 14, 15, 16, 17, 18, 19, 20, 21, 22, 23, 24, 25, 26, 27, 28, 29], [])])
def intrusionref12_Encode.B29 : List Nat := [0, 1, 3, 7, 0, 16, 63, 127, 0, 256, 1023, 2047, 0, 6143, 16383, 0, 32768, 112639, 262143, 0, 524288, 1816575, 4194303, 0, 8388608, 29079551, 67108863, 0, 268435455, 536870911, 1073741823]
theorem intrusionref12_Encode.tab29 : rtab .any (opsOf Try.f16 29) = intrusionref12_Encode.T29 := by kernel_rfl
theorem intrusionref12_Encode.bits29 : waitsOk intrusionref12_Encode.T29.2 intrusionref12_Encode.B29 = true := by kernel_rfl
set_option maxHeartbeats 8000000 in
set_option maxRecDepth 100000 in
theorem intrusionref12_Encode.calls (k : Nat) (d0 : Int) (d1 : Int) (d2 : Int) (d3 : Int) (d4 : Bool) (d5 : Int) (d6 : Int) (d7 : Bool) (d8 : Int) (d9 : Int) (A0_10 : Option Addr) (c0_10 : Nat) (l0_10 : List (S60)) (d11 : Bool) (d12 : Int) (d13 : Int) (d14 : Bool) (d15 : ByteArray) (r1 : ByteArray) (r2 : Int) (w : World) (hr0_10 : Kd.C k60 w A0_10 l0_10.length l0_10) (hc0_10 : l0_10.length ≤ c0_10) (h : intrusionref12_Encode.f k d0 d1 d2 d3 d4 d5 d6 d7 d8 d9 l0_10 d11 d12 d13 d14 d15 = some (r1, r2)) :
  Calls Try.prog 16 #[.agg #[.int .i64 d0, .int .i64 d1, .int .i64 d2, .int .i64 d3, .bool d4, .int .u64 d5, .int .u64 d6, .bool d7, .int .u64 d8, .int .u64 d9, .slice A0_10 l0_10.length c0_10, .bool d11, .int .i64 d12, .int .i64 d13, .bool d14, .string d15]] w fun e w' => e = .returned (.tuple #[.string r1, .int .i64 r2]) ∧ Below w.heap.size w w' := by
 have hu28 := Try.underlying28
 have hu60 := Try.underlying60
 have hu25 := Try.underlying25
 have HR0_10 := As hr0_10
 have HC0_10 := As hc0_10
 clear hr0_10 hc0_10
 have HB := As (Below.refl w.heap.size w)
 have H : ((intrusionref12_ranges.f k d0 d1 d2 d3 d4 d5 d6 d7 d8 d9 l0_10 d11 d12 d13 d14 d15).bind fun t460 => (if t460 = true then (if (l0_10.length : Int) > 8 then (some ((⟨#[]⟩ : ByteArray), 9)) else (intrusionref12_Encode.l0 k 0 d0 d1 d2 d3 d4 d5 d6 d7 d8 d9 l0_10 d11 d12 d13 d14 d15)) else (some ((⟨#[]⟩ : ByteArray), 4)))) = some (r1, r2) := h
 clear h
 replace H := Option.bind_eq_some_iff.mp H
 obtain ⟨t460, A20, H⟩ := H
 replace H : (if t460 = true then (if (l0_10.length : Int) > 8 then (some ((⟨#[]⟩ : ByteArray), 9)) else (intrusionref12_Encode.l0 k 0 d0 d1 d2 d3 d4 d5 d6 d7 d8 d9 l0_10 d11 d12 d13 d14 d15)) else (some ((⟨#[]⟩ : ByteArray), 4))) = some (r1, r2) := H
 have A2 := As A20
 clear A20
 by_cases c3 : t460 = true
 ·subst c3
  have H1 : (if (l0_10.length : Int) > 8 then (some ((⟨#[]⟩ : ByteArray), 9)) else (intrusionref12_Encode.l0 k 0 d0 d1 d2 d3 d4 d5 d6 d7 d8 d9 l0_10 d11 d12 d13 d14 d15)) = some (r1, r2) := by rw [if_pos rfl] at H; exact H
  clear H
  have H := H1
  clear H1
  by_cases c4 : (l0_10.length : Int) > 8
  ·rw [if_pos c4] at H
   have c4b0 : decide (8 < (l0_10.length : Int)) = true := decide_eq_true c4
   have c4b1 : decide (8 < l0_10.length) = true := decide_eq_true (by omega)
   clear c4
   simp only [Option.some.injEq, Prod.mk.injEq] at H
   obtain ⟨rfl, rfl⟩ := H
   go_enter Try.func16, Try.ntmps16
   go_wp2_with (first | ((with_reducible refine gate_dst (N := 1) rfl ?_); (try (refine gate_guard (by rfl) ?_; dsimp only)); refine box_event rfl (N := 1) rfl (cs := #[.int .i64 d0, .int .i64 d1, .int .i64 d2, .int .i64 d3, .bool d4, .int .u64 d5, .int .u64 d6, .bool d7, .int .u64 d8, .int .u64 d9, .slice A0_10 l0_10.length c0_10, .bool d11, .int .i64 d12, .int .i64 d13, .bool d14, .string d15]) (t := 28) kG ?_; intro gb459 hg w5 hbox hb; have BK459 := As (hbox); have GW459 := As ((by rw [hg]; exact (below_size (kB HB.out)) : w.heap.size ≤ gb459)); have GE459 := As ((by rw [hg]; exact (below_size (kB HB.out)) : w.heap.size ≤ gb459)); replace HB := As (below_step (kB HB.out) hb); clear hb hbox hg) | ((with_reducible refine gate_dst (N := 11) rfl ?_); (try (refine gate_guard (by rfl) ?_; dsimp only)); refine wpList_load_row rfl 28 _ rfl gb459 rfl 28 _ (0, 0) _ (kb BK459.out) Try.underlying28 rfl (by kernel_rfl) ?_) | ((with_reducible refine gate_callee (f := 37) rfl ?_); refine goesL_ (some 12) rfl rfl Try.func37 (by kernel_rfl) rfl #[.agg #[.int .i64 d0, .int .i64 d1, .int .i64 d2, .int .i64 d3, .bool d4, .int .u64 d5, .int .u64 d6, .bool d7, .int .u64 d8, .int .u64 d9, .slice A0_10 l0_10.length c0_10, .bool d11, .int .i64 d12, .int .i64 d13, .bool d14, .string d15]] rfl kA ?_; (with_reducible refine (intrusionref12_ranges.calls k d0 d1 d2 d3 d4 d5 d6 d7 d8 d9 _ _ l0_10 d11 d12 d13 d14 d15 true _ ?side1 ?side2 A2.out).mono ?_); (case side1 => repeat (first | exact (Kd.C_below HR0_10.out HB.out) | (with_reducible refine Kd.C_alloc ?_ _) | (with_reducible refine Kd.C_drewN ?_ _) | (with_reducible refine Kd.C_drew ?_))); (case side2 => exact HC0_10.out); rintro e w6 ⟨rfl, hb⟩; refine ⟨_, rfl, ?_⟩; replace BK459 := As (blk_below (kb BK459.out) hb); replace HB := As (below_step (kB1 HB.out GE459.out) hb); (try clear hb); have hcz7_0 := cells_16 BK459.out; have hfz7_0 := fun j_ => blk_frozen BK459.out j_))
   go_ret2
   exact ⟨kE, by exact kB1 HB.out GE459.out⟩
  rw [if_neg c4] at H
  have c4b0 : decide (8 < (l0_10.length : Int)) = false := decide_eq_false c4
  have c4b1 : decide (8 < l0_10.length) = false := decide_eq_false (by omega)
  clear c4
  have H' := As H
  clear H
  go_enter Try.func16, Try.ntmps16
  go_wp2_with (first | ((with_reducible refine gate_dst (N := 1) rfl ?_); (try (refine gate_guard (by rfl) ?_; dsimp only)); refine box_event rfl (N := 1) rfl (cs := #[.int .i64 d0, .int .i64 d1, .int .i64 d2, .int .i64 d3, .bool d4, .int .u64 d5, .int .u64 d6, .bool d7, .int .u64 d8, .int .u64 d9, .slice A0_10 l0_10.length c0_10, .bool d11, .int .i64 d12, .int .i64 d13, .bool d14, .string d15]) (t := 28) kG ?_; intro gb459 hg w8 hbox hb; have BK459 := As (hbox); have GW459 := As ((by rw [hg]; exact (below_size (kB HB.out)) : w.heap.size ≤ gb459)); have GE459 := As ((by rw [hg]; exact (below_size (kB HB.out)) : w.heap.size ≤ gb459)); replace HB := As (below_step (kB HB.out) hb); clear hb hbox hg) | ((with_reducible refine gate_dst (N := 11) rfl ?_); (try (refine gate_guard (by rfl) ?_; dsimp only)); refine wpList_load_row rfl 28 _ rfl gb459 rfl 28 _ (0, 0) _ (kb BK459.out) Try.underlying28 rfl (by kernel_rfl) ?_) | ((with_reducible refine gate_callee (f := 37) rfl ?_); refine goesL_ (some 12) rfl rfl Try.func37 (by kernel_rfl) rfl #[.agg #[.int .i64 d0, .int .i64 d1, .int .i64 d2, .int .i64 d3, .bool d4, .int .u64 d5, .int .u64 d6, .bool d7, .int .u64 d8, .int .u64 d9, .slice A0_10 l0_10.length c0_10, .bool d11, .int .i64 d12, .int .i64 d13, .bool d14, .string d15]] rfl kA ?_; (with_reducible refine (intrusionref12_ranges.calls k d0 d1 d2 d3 d4 d5 d6 d7 d8 d9 _ _ l0_10 d11 d12 d13 d14 d15 true _ ?side1 ?side2 A2.out).mono ?_); (case side1 => repeat (first | exact (Kd.C_below HR0_10.out HB.out) | (with_reducible refine Kd.C_alloc ?_ _) | (with_reducible refine Kd.C_drewN ?_ _) | (with_reducible refine Kd.C_drew ?_))); (case side2 => exact HC0_10.out); rintro e w9 ⟨rfl, hb⟩; refine ⟨_, rfl, ?_⟩; replace BK459 := As (blk_below (kb BK459.out) hb); replace HB := As (below_step (kB1 HB.out GE459.out) hb); (try clear hb); have hcz10_0 := cells_16 BK459.out; have hfz10_0 := fun j_ => blk_frozen BK459.out j_))
  go_loopg [4] k (fun kq v4 w' => ∃ (x4_1 : Int), v4 = .int .i64 x4_1 ∧ Aside0 (intrusionref12_Encode.l0 kq x4_1 d0 d1 d2 d3 d4 d5 d6 d7 d8 d9 l0_10 d11 d12 d13 d14 d15 = some (r1, r2)) ∧ Aside0 (kq ≤ k) ∧ Aside0 (w'.heap[gb459]? = some (.cells #[.int .i64 d0, .int .i64 d1, .int .i64 d2, .int .i64 d3, .bool d4, .int .u64 d5, .int .u64 d6, .bool d7, .int .u64 d8, .int .u64 d9, (.slice A0_10 l0_10.length c0_10), .bool d11, .int .i64 d12, .int .i64 d13, .bool d14, .string d15] 28 (0, 0))) ∧ Aside0 (Below w.heap.size w w'))
  case atStart => exact ⟨(0), kS, H', ⟨Nat.le_refl _⟩, ⟨kb BK459.out⟩, ⟨kB1 HB.out GE459.out⟩⟩
  clear H'
  try clear c3
  try clear c4
  try clear c4b0
  try clear c4b1
  try clear hcz10_0
  try clear hfz10_0
  obtain ⟨x4_1, rfl, HA, HK1, BK459, HB⟩ := hrel
  cases gk with
  | zero => exact absurd HA.out (by simp [intrusionref12_Encode.l0])
  | succ k1 =>
   have H := HA.out
   clear HA
   simp only [intrusionref12_Encode.l0] at H
   by_cases c11 : x4_1 < (l0_10.length : Int)
   ·rw [if_pos c11] at H
    have c11b0 : decide (x4_1 < (l0_10.length : Int)) = true := decide_eq_true c11
    clear c11
    by_cases c12 : 0 ≤ x4_1
    ·rw [if_pos c12] at H
     have c12b0 : decide (0 ≤ x4_1) = true := decide_eq_true c12
     clear c12
     have HC13 := As H
     clear H
     have hcz14_0 := cells_16 BK459.out
     have hfz14_0 := fun j_ => blk_frozen BK459.out j_
     have p461 : 0 ≤ (x4_1 : Int) := of_decide_eq_true (by first | (with_reducible assumption) | assumption)
     have q461 : x4_1 < (l0_10.length : Int) := of_decide_eq_true (by first | (with_reducible assumption) | assumption)
     obtain ⟨ad461, e461, hx461_0, hx461_1⟩ := at_T60 HR0_10.out x4_1 p461 q461
     cases e461
     replace hx461_0 := hcell HB.out hx461_0
     replace hx461_1 := hcell HB.out hx461_1
     replace p461 := eq_true p461
     replace q461 := eq_true q461
     go_upto_region 9 with (first | ((with_reducible refine gate_dst (N := 5) rfl ?_); (try (refine gate_guard (by rfl) ?_; dsimp only)); refine box_event rfl (N := 5) rfl (cs := #[.int .i64 0, .string (⟨#[]⟩ : ByteArray)]) (t := 60) kG ?_; intro gb462 hg w15 hbox hb; have BK462 := As (hbox); have GW462 := As ((by rw [hg]; exact (below_size (kB1 HB.out GE459.out)) : w.heap.size ≤ gb462)); have GE462 := As ((by rw [hg]; exact (below_size (kB1 HB.out GE459.out)) : w.heap.size ≤ gb462)); replace HB := As (below_step (kB1 HB.out GE459.out) hb); have NB459_462 := As ((by rw [hg]; exact Nat.ne_of_lt (blk_lt (kb BK459.out)) : gb459 ≠ gb462)); have NB462_459 := As ((by rw [hg]; exact Nat.ne_of_gt (blk_lt (kb BK459.out)) : gb462 ≠ gb459)); replace BK459 := As (blk_below (kb BK459.out) hb); clear hb hbox hg; have hnb16 := NB462_459.out; have hnc16 := NB459_462.out; have hcz17_0 := cells_2 BK462.out; have hfz17_0 := fun j_ => blk_frozen BK462.out j_))
     (try simp only [Act.put, sA, sZ, sS])
     go_cut [55] (fun v55 wc => ∃ (kq : Nat) (x55_12 : Bool), v55 = .bool x55_12 ∧ Aside0 (intrusionref12_Encode.j1 kq x4_1 x55_12 d0 d1 d2 d3 d4 d5 d6 d7 d8 d9 l0_10 d11 d12 d13 d14 d15 = some (r1, r2)) ∧ Aside0 (kq ≤ k1) ∧ Aside0 (wc.heap[gb459]? = some (.cells #[.int .i64 d0, .int .i64 d1, .int .i64 d2, .int .i64 d3, .bool d4, .int .u64 d5, .int .u64 d6, .bool d7, .int .u64 d8, .int .u64 d9, (.slice (some ad461) l0_10.length c0_10), .bool d11, .int .i64 d12, .int .i64 d13, .bool d14, .string d15] 28 (0, 0))) ∧ Aside0 (wc.heap[gb462]? = some (.cells #[.int .i64 ((rd_T60 l0_10 x4_1).f0), .string ((rd_T60 l0_10 x4_1).f1)] 60 (0, 0))) ∧ Aside0 (Below w.heap.size w wc))
     case first =>
      have H := HC13.out
      clear HC13
      replace H := Option.bind_eq_some_iff.mp H
      obtain ⟨t463, A180, H⟩ := H
      replace H : (if t463 = true then (if ((rd_T60 l0_10 x4_1).f0) = 0 then (if x4_1 > 0 then (intrusionref12_Encode.j1 k1 x4_1 true d0 d1 d2 d3 d4 d5 d6 d7 d8 d9 l0_10 d11 d12 d13 d14 d15) else (if ((((rd_T60 l0_10 x4_1).f1).size : Int) % 8) = 6 then (intrusionref12_Encode.j1 k1 x4_1 (decide ((((rd_T60 l0_10 x4_1).f1).size : Int) > 2046)) d0 d1 d2 d3 d4 d5 d6 d7 d8 d9 l0_10 d11 d12 d13 d14 d15) else (intrusionref12_Encode.j1 k1 x4_1 true d0 d1 d2 d3 d4 d5 d6 d7 d8 d9 l0_10 d11 d12 d13 d14 d15))) else (if ((((rd_T60 l0_10 x4_1).f1).size : Int) % 8) = 6 then (intrusionref12_Encode.j1 k1 x4_1 (decide ((((rd_T60 l0_10 x4_1).f1).size : Int) > 2046)) d0 d1 d2 d3 d4 d5 d6 d7 d8 d9 l0_10 d11 d12 d13 d14 d15) else (intrusionref12_Encode.j1 k1 x4_1 true d0 d1 d2 d3 d4 d5 d6 d7 d8 d9 l0_10 d11 d12 d13 d14 d15))) else (intrusionref12_Encode.j1 k1 x4_1 true d0 d1 d2 d3 d4 d5 d6 d7 d8 d9 l0_10 d11 d12 d13 d14 d15)) = some (r1, r2) := H
      have A18 := As A180
      clear A180
      by_cases c19 : t463 = true
      ·subst c19
       have H1 : (if ((rd_T60 l0_10 x4_1).f0) = 0 then (if x4_1 > 0 then (intrusionref12_Encode.j1 k1 x4_1 true d0 d1 d2 d3 d4 d5 d6 d7 d8 d9 l0_10 d11 d12 d13 d14 d15) else (if ((((rd_T60 l0_10 x4_1).f1).size : Int) % 8) = 6 then (intrusionref12_Encode.j1 k1 x4_1 (decide ((((rd_T60 l0_10 x4_1).f1).size : Int) > 2046)) d0 d1 d2 d3 d4 d5 d6 d7 d8 d9 l0_10 d11 d12 d13 d14 d15) else (intrusionref12_Encode.j1 k1 x4_1 true d0 d1 d2 d3 d4 d5 d6 d7 d8 d9 l0_10 d11 d12 d13 d14 d15))) else (if ((((rd_T60 l0_10 x4_1).f1).size : Int) % 8) = 6 then (intrusionref12_Encode.j1 k1 x4_1 (decide ((((rd_T60 l0_10 x4_1).f1).size : Int) > 2046)) d0 d1 d2 d3 d4 d5 d6 d7 d8 d9 l0_10 d11 d12 d13 d14 d15) else (intrusionref12_Encode.j1 k1 x4_1 true d0 d1 d2 d3 d4 d5 d6 d7 d8 d9 l0_10 d11 d12 d13 d14 d15))) = some (r1, r2) := by rw [if_pos rfl] at H; exact H
       clear H
       have H := H1
       clear H1
       by_cases c20 : ((rd_T60 l0_10 x4_1).f0) = 0
       ·rw [if_pos c20] at H
        have c20b0 : (((rd_T60 l0_10 x4_1).f0) == 0) = true := beq_iff_eq.mpr c20
        have c20b1 : (((rd_T60 l0_10 x4_1).f0) != 0) = false := bne_eq_false_iff_eq.mpr c20
        clear c20
        (first | rw [c20b0] | (simp only [i64_w, i32_w]; rw [c20b0]) | skip)
        by_cases c21 : x4_1 > 0
        ·rw [if_pos c21] at H
         have c21b0 : decide (0 < x4_1) = true := decide_eq_true c21
         clear c21
         have H' := As H
         clear H
         have hnb22 := NB462_459.out
         have hnc22 := NB459_462.out
         have hcz23_0 := cells_2 BK462.out
         have hfz23_0 := fun j_ => blk_frozen BK462.out j_
         go_wp2_with (first | ((with_reducible refine gate_callee (f := 33) rfl ?_); refine goesL_ (some 32) rfl rfl Try.func33 (by kernel_rfl) rfl #[.int .i64 ((rd_T60 l0_10 x4_1).f0)] rfl kA ?_; (with_reducible refine (intrusionref12_extension.calls ((rd_T60 l0_10 x4_1).f0) true _ A18.out).mono ?_); rintro e w' ⟨rfl, ⟨nd, rfl⟩⟩; refine ⟨_, rfl, ?_⟩))
         go_meet
         case rel => exact ⟨_, (true), kS, H', ⟨by have := HK1.out; first | omega | exact Nat.le_refl _⟩, ⟨by refine kb ?_; refine blk_far ?_ NB459_462.out _; refine kb ?_; refine blk_far ?_ NB459_462.out _; exact kb BK459.out⟩, ⟨by refine kb ?_; refine blk_put (cs := #[.int .i64 ((rd_T60 l0_10 x4_1).f0), .string (⟨#[]⟩ : ByteArray)]) ?_ 1 _ rfl; refine kb ?_; refine blk_put (cs := #[.int .i64 0, .string (⟨#[]⟩ : ByteArray)]) ?_ 0 _ rfl; exact kb BK462.out⟩, ⟨kB2 HB.out GE459.out GE462.out⟩⟩
        rw [if_neg c21] at H
        have c21b0 : decide (0 < x4_1) = false := decide_eq_false c21
        clear c21
        by_cases c24 : ((((rd_T60 l0_10 x4_1).f1).size : Int) % 8) = 6
        ·rw [if_pos c24] at H
         have c24b0 : (((((rd_T60 l0_10 x4_1).f1).size : Int) % 8) == 6) = true := beq_iff_eq.mpr c24
         have c24b1 : (((((rd_T60 l0_10 x4_1).f1).size : Int) % 8) != 6) = false := bne_eq_false_iff_eq.mpr c24
         clear c24
         have H' := As H
         clear H
         have hnb25 := NB462_459.out
         have hnc25 := NB459_462.out
         have hcz26_0 := cells_2 BK462.out
         have hfz26_0 := fun j_ => blk_frozen BK462.out j_
         go_wp2_with (first | ((with_reducible refine gate_callee (f := 33) rfl ?_); refine goesL_ (some 32) rfl rfl Try.func33 (by kernel_rfl) rfl #[.int .i64 ((rd_T60 l0_10 x4_1).f0)] rfl kA ?_; (with_reducible refine (intrusionref12_extension.calls ((rd_T60 l0_10 x4_1).f0) true _ A18.out).mono ?_); rintro e w' ⟨rfl, ⟨nd, rfl⟩⟩; refine ⟨_, rfl, ?_⟩))
         go_meet
         case rel => exact ⟨_, (decide ((((rd_T60 l0_10 x4_1).f1).size : Int) > 2046)), kS, H', ⟨by have := HK1.out; first | omega | exact Nat.le_refl _⟩, ⟨by refine kb ?_; refine blk_far ?_ NB459_462.out _; refine kb ?_; refine blk_far ?_ NB459_462.out _; exact kb BK459.out⟩, ⟨by refine kb ?_; refine blk_put (cs := #[.int .i64 ((rd_T60 l0_10 x4_1).f0), .string (⟨#[]⟩ : ByteArray)]) ?_ 1 _ rfl; refine kb ?_; refine blk_put (cs := #[.int .i64 0, .string (⟨#[]⟩ : ByteArray)]) ?_ 0 _ rfl; exact kb BK462.out⟩, ⟨kB2 HB.out GE459.out GE462.out⟩⟩
        rw [if_neg c24] at H
        have c24b0 : (((((rd_T60 l0_10 x4_1).f1).size : Int) % 8) == 6) = false := beq_eq_false_iff_ne.mpr c24
        have c24b1 : (((((rd_T60 l0_10 x4_1).f1).size : Int) % 8) != 6) = true := bne_iff_ne.mpr c24
        have H' := As H
        clear H
        have hnb27 := NB462_459.out
        have hnc27 := NB459_462.out
        have hcz28_0 := cells_2 BK462.out
        have hfz28_0 := fun j_ => blk_frozen BK462.out j_
        go_wp2_with (first | ((with_reducible refine gate_callee (f := 33) rfl ?_); refine goesL_ (some 32) rfl rfl Try.func33 (by kernel_rfl) rfl #[.int .i64 ((rd_T60 l0_10 x4_1).f0)] rfl kA ?_; (with_reducible refine (intrusionref12_extension.calls ((rd_T60 l0_10 x4_1).f0) true _ A18.out).mono ?_); rintro e w' ⟨rfl, ⟨nd, rfl⟩⟩; refine ⟨_, rfl, ?_⟩))
        go_meet
        case rel => exact ⟨_, (true), kS, H', ⟨by have := HK1.out; first | omega | exact Nat.le_refl _⟩, ⟨by refine kb ?_; refine blk_far ?_ NB459_462.out _; refine kb ?_; refine blk_far ?_ NB459_462.out _; exact kb BK459.out⟩, ⟨by refine kb ?_; refine blk_put (cs := #[.int .i64 ((rd_T60 l0_10 x4_1).f0), .string (⟨#[]⟩ : ByteArray)]) ?_ 1 _ rfl; refine kb ?_; refine blk_put (cs := #[.int .i64 0, .string (⟨#[]⟩ : ByteArray)]) ?_ 0 _ rfl; exact kb BK462.out⟩, ⟨kB2 HB.out GE459.out GE462.out⟩⟩
       rw [if_neg c20] at H
       have c20b0 : (((rd_T60 l0_10 x4_1).f0) == 0) = false := beq_eq_false_iff_ne.mpr c20
       have c20b1 : (((rd_T60 l0_10 x4_1).f0) != 0) = true := bne_iff_ne.mpr c20
       (first | rw [c20b0] | (simp only [i64_w, i32_w]; rw [c20b0]) | skip)
       by_cases c29 : ((((rd_T60 l0_10 x4_1).f1).size : Int) % 8) = 6
       ·rw [if_pos c29] at H
        have c29b0 : (((((rd_T60 l0_10 x4_1).f1).size : Int) % 8) == 6) = true := beq_iff_eq.mpr c29
        have c29b1 : (((((rd_T60 l0_10 x4_1).f1).size : Int) % 8) != 6) = false := bne_eq_false_iff_eq.mpr c29
        clear c29
        have H' := As H
        clear H
        have hnb30 := NB462_459.out
        have hnc30 := NB459_462.out
        have hcz31_0 := cells_2 BK462.out
        have hfz31_0 := fun j_ => blk_frozen BK462.out j_
        go_wp2_with (first | ((with_reducible refine gate_callee (f := 33) rfl ?_); refine goesL_ (some 32) rfl rfl Try.func33 (by kernel_rfl) rfl #[.int .i64 ((rd_T60 l0_10 x4_1).f0)] rfl kA ?_; (with_reducible refine (intrusionref12_extension.calls ((rd_T60 l0_10 x4_1).f0) true _ A18.out).mono ?_); rintro e w' ⟨rfl, ⟨nd, rfl⟩⟩; refine ⟨_, rfl, ?_⟩))
        go_meet
        case rel => exact ⟨_, (decide ((((rd_T60 l0_10 x4_1).f1).size : Int) > 2046)), kS, H', ⟨by have := HK1.out; first | omega | exact Nat.le_refl _⟩, ⟨by refine kb ?_; refine blk_far ?_ NB459_462.out _; refine kb ?_; refine blk_far ?_ NB459_462.out _; exact kb BK459.out⟩, ⟨by refine kb ?_; refine blk_put (cs := #[.int .i64 ((rd_T60 l0_10 x4_1).f0), .string (⟨#[]⟩ : ByteArray)]) ?_ 1 _ rfl; refine kb ?_; refine blk_put (cs := #[.int .i64 0, .string (⟨#[]⟩ : ByteArray)]) ?_ 0 _ rfl; exact kb BK462.out⟩, ⟨kB2 HB.out GE459.out GE462.out⟩⟩
       rw [if_neg c29] at H
       have c29b0 : (((((rd_T60 l0_10 x4_1).f1).size : Int) % 8) == 6) = false := beq_eq_false_iff_ne.mpr c29
       have c29b1 : (((((rd_T60 l0_10 x4_1).f1).size : Int) % 8) != 6) = true := bne_iff_ne.mpr c29
       have H' := As H
       clear H
       have hnb32 := NB462_459.out
       have hnc32 := NB459_462.out
       have hcz33_0 := cells_2 BK462.out
       have hfz33_0 := fun j_ => blk_frozen BK462.out j_
       go_wp2_with (first | ((with_reducible refine gate_callee (f := 33) rfl ?_); refine goesL_ (some 32) rfl rfl Try.func33 (by kernel_rfl) rfl #[.int .i64 ((rd_T60 l0_10 x4_1).f0)] rfl kA ?_; (with_reducible refine (intrusionref12_extension.calls ((rd_T60 l0_10 x4_1).f0) true _ A18.out).mono ?_); rintro e w' ⟨rfl, ⟨nd, rfl⟩⟩; refine ⟨_, rfl, ?_⟩))
       go_meet
       case rel => exact ⟨_, (true), kS, H', ⟨by have := HK1.out; first | omega | exact Nat.le_refl _⟩, ⟨by refine kb ?_; refine blk_far ?_ NB459_462.out _; refine kb ?_; refine blk_far ?_ NB459_462.out _; exact kb BK459.out⟩, ⟨by refine kb ?_; refine blk_put (cs := #[.int .i64 ((rd_T60 l0_10 x4_1).f0), .string (⟨#[]⟩ : ByteArray)]) ?_ 1 _ rfl; refine kb ?_; refine blk_put (cs := #[.int .i64 0, .string (⟨#[]⟩ : ByteArray)]) ?_ 0 _ rfl; exact kb BK462.out⟩, ⟨kB2 HB.out GE459.out GE462.out⟩⟩
      replace c19 := Bool.eq_false_iff.mpr c19
      subst c19
      have H1 : (intrusionref12_Encode.j1 k1 x4_1 true d0 d1 d2 d3 d4 d5 d6 d7 d8 d9 l0_10 d11 d12 d13 d14 d15) = some (r1, r2) := by rw [if_neg (show ¬ (false = true) by decide)] at H; exact H
      clear H
      have H := H1
      clear H1
      have H' := As H
      clear H
      have hnb34 := NB462_459.out
      have hnc34 := NB459_462.out
      have hcz35_0 := cells_2 BK462.out
      have hfz35_0 := fun j_ => blk_frozen BK462.out j_
      go_wp2_with (first | ((with_reducible refine gate_callee (f := 33) rfl ?_); refine goesL_ (some 32) rfl rfl Try.func33 (by kernel_rfl) rfl #[.int .i64 ((rd_T60 l0_10 x4_1).f0)] rfl kA ?_; (with_reducible refine (intrusionref12_extension.calls ((rd_T60 l0_10 x4_1).f0) false _ A18.out).mono ?_); rintro e w' ⟨rfl, ⟨nd, rfl⟩⟩; refine ⟨_, rfl, ?_⟩))
      go_meet
      case rel => exact ⟨_, (true), kS, H', ⟨by have := HK1.out; first | omega | exact Nat.le_refl _⟩, ⟨by refine kb ?_; refine blk_far ?_ NB459_462.out _; refine kb ?_; refine blk_far ?_ NB459_462.out _; exact kb BK459.out⟩, ⟨by refine kb ?_; refine blk_put (cs := #[.int .i64 ((rd_T60 l0_10 x4_1).f0), .string (⟨#[]⟩ : ByteArray)]) ?_ 1 _ rfl; refine kb ?_; refine blk_put (cs := #[.int .i64 0, .string (⟨#[]⟩ : ByteArray)]) ?_ 0 _ rfl; exact kb BK462.out⟩, ⟨kB2 HB.out GE459.out GE462.out⟩⟩
     clear HC13
     try clear c11
     try clear c11b0
     try clear c12
     try clear c12b0
     try clear hcz14_0
     try clear hcz17_0
     try clear hfz14_0
     try clear hfz17_0
     try clear hx461_0
     try clear hx461_1
     try clear p461
     try clear q461
     obtain ⟨kq, x55_12, rfl, HA, HJ12, BK459, BK462, HB⟩ := hcut
     cases kq with
     | zero => exact absurd HA.out (by simp [intrusionref12_Encode.j1])
     | succ kj12 =>
      have H := HA.out
      clear HA
      simp only [intrusionref12_Encode.j1] at H
      by_cases c36 : x55_12 = true
      ·subst c36
       have H1 : (some ((⟨#[]⟩ : ByteArray), 2)) = some (r1, r2) := by rw [if_pos rfl] at H; exact H
       clear H
       have H := H1
       clear H1
       simp only [Option.some.injEq, Prod.mk.injEq] at H
       obtain ⟨rfl, rfl⟩ := H
       go_wp2
       go_ret2
       exact ⟨kE, by exact kB2 HB.out GE459.out GE462.out⟩
      replace c36 := Bool.eq_false_iff.mpr c36
      subst c36
      have H1 : (intrusionref12_Encode.l0 kj12 (wrap64 (x4_1 + 1)) d0 d1 d2 d3 d4 d5 d6 d7 d8 d9 l0_10 d11 d12 d13 d14 d15) = some (r1, r2) := by rw [if_neg (show ¬ (false = true) by decide)] at H; exact H
      clear H
      have H := H1
      clear H1
      have H' := As H
      clear H
      go_wp2
      go_roundg kj12
      case measure => have := HK1.out; have := HJ12.out; omega
      case rel => exact ⟨(wrap64 (x4_1 + 1)), kS, H', ⟨by have := HK1.out; have := HJ12.out; omega⟩, ⟨kb BK459.out⟩, ⟨kB2 HB.out GE459.out GE462.out⟩⟩
    rw [if_neg c12] at H
    exact absurd H (by simp)
   rw [if_neg c11] at H
   have c11b0 : decide (x4_1 < (l0_10.length : Int)) = false := decide_eq_false c11
   clear c11
   by_cases c37 : (d15.size : Int) > 65535
   ·rw [if_pos c37] at H
    have c37b0 : decide (65535 < (d15.size : Int)) = true := decide_eq_true c37
    have c37b1 : decide (65535 < d15.size) = true := decide_eq_true (by omega)
    clear c37
    simp only [Option.some.injEq, Prod.mk.injEq] at H
    obtain ⟨rfl, rfl⟩ := H
    have hcz38_0 := cells_16 BK459.out
    have hfz38_0 := fun j_ => blk_frozen BK459.out j_
    go_wp2
    go_ret2
    exact ⟨kE, by exact kB1 HB.out GE459.out⟩
   rw [if_neg c37] at H
   have c37b0 : decide (65535 < (d15.size : Int)) = false := decide_eq_false c37
   have c37b1 : decide (65535 < d15.size) = false := decide_eq_false (by omega)
   clear c37
   have HC39 := As H
   clear H
   have hcz40_0 := cells_16 BK459.out
   have hfz40_0 := fun j_ => blk_frozen BK459.out j_
   go_upto_if 64 with (fail)
   go_cut [6, 7] (fun v6 v7 wc => ∃ (kq : Nat) (x6_38 : Int) (x7_38 : ByteArray), v6 = .int .i64 x6_38 ∧ v7 = .string x7_38 ∧ Aside0 (intrusionref12_Encode.j3 kq x6_38 x7_38 d0 d1 d2 d3 d4 d5 d6 d7 d8 d9 l0_10 d11 d12 d13 d14 d15 = some (r1, r2)) ∧ Aside0 (kq ≤ k1) ∧ Aside0 (wc.heap[gb459]? = some (.cells #[.int .i64 d0, .int .i64 d1, .int .i64 d2, .int .i64 d3, .bool d4, .int .u64 d5, .int .u64 d6, .bool d7, .int .u64 d8, .int .u64 d9, (.slice A0_10 l0_10.length c0_10), .bool d11, .int .i64 d12, .int .i64 d13, .bool d14, .string d15] 28 (0, 0))) ∧ Aside0 (Below w.heap.size w wc))
   case first =>
    have H := HC39.out
    clear HC39
    by_cases c41 : d11 = true
    ·subst c41
     have H1 : (if d14 = true then (intrusionref12_Encode.j2 k1 d3 d15 1 d0 d1 d2 d3 d4 d5 d6 d7 d8 d9 l0_10 true d12 d13 d14 d15) else (intrusionref12_Encode.j2 k1 d3 d15 0 d0 d1 d2 d3 d4 d5 d6 d7 d8 d9 l0_10 true d12 d13 d14 d15)) = some (r1, r2) := by rw [if_pos rfl] at H; exact H
     clear H
     have H := H1
     clear H1
     have HC42 := As H
     clear H
     have hcz43_0 := cells_16 BK459.out
     have hfz43_0 := fun j_ => blk_frozen BK459.out j_
     go_upto_if 66 with (fail)
     go_cut [8] (fun v8 wc => ∃ (kq : Nat) (x8_41 : Int), v8 = .int .i64 x8_41 ∧ Aside0 (intrusionref12_Encode.j2 kq d3 d15 x8_41 d0 d1 d2 d3 d4 d5 d6 d7 d8 d9 l0_10 true d12 d13 d14 d15 = some (r1, r2)) ∧ Aside0 (kq ≤ k1) ∧ Aside0 (wc.heap[gb459]? = some (.cells #[.int .i64 d0, .int .i64 d1, .int .i64 d2, .int .i64 d3, .bool d4, .int .u64 d5, .int .u64 d6, .bool d7, .int .u64 d8, .int .u64 d9, (.slice A0_10 l0_10.length c0_10), .bool true, .int .i64 d12, .int .i64 d13, .bool d14, .string d15] 28 (0, 0))) ∧ Aside0 (Below w.heap.size w wc))
     case first =>
      have H := HC42.out
      clear HC42
      by_cases c44 : d14 = true
      ·subst c44
       have H1 : (intrusionref12_Encode.j2 k1 d3 d15 1 d0 d1 d2 d3 d4 d5 d6 d7 d8 d9 l0_10 true d12 d13 true d15) = some (r1, r2) := by rw [if_pos rfl] at H; exact H
       clear H
       have H := H1
       clear H1
       have H' := As H
       clear H
       go_wp2
       go_meet
       case rel => exact ⟨_, (1), kS, H', ⟨by have := HK1.out; first | omega | exact Nat.le_refl _⟩, ⟨kb BK459.out⟩, ⟨kB1 HB.out GE459.out⟩⟩
      replace c44 := Bool.eq_false_iff.mpr c44
      subst c44
      have H1 : (intrusionref12_Encode.j2 k1 d3 d15 0 d0 d1 d2 d3 d4 d5 d6 d7 d8 d9 l0_10 true d12 d13 false d15) = some (r1, r2) := by rw [if_neg (show ¬ (false = true) by decide)] at H; exact H
      clear H
      have H := H1
      clear H1
      have H' := As H
      clear H
      go_wp2
      go_meet
      case rel => exact ⟨_, (0), kS, H', ⟨by have := HK1.out; first | omega | exact Nat.le_refl _⟩, ⟨kb BK459.out⟩, ⟨kB1 HB.out GE459.out⟩⟩
     clear HC42
     try clear c11
     try clear c11b0
     try clear c37
     try clear c37b0
     try clear c37b1
     try clear c41
     try clear hcz40_0
     try clear hcz43_0
     try clear hfz40_0
     try clear hfz43_0
     obtain ⟨kq, x8_41, rfl, HA, HJ41, BK459, HB⟩ := hcut
     cases kq with
     | zero => exact absurd HA.out (by simp [intrusionref12_Encode.j2])
     | succ kj41 =>
      have H := HA.out
      clear HA
      simp only [intrusionref12_Encode.j2] at H
      replace H := Option.bind_eq_some_iff.mp H
      obtain ⟨t464, A450, H⟩ := H
      replace H : ((intrusionref12_put.f kj41 0 1).bind fun t465 => (if t464.size + t465.size ≤ 9223372036854775807 then ((intrusionref12_put.f kj41 (wrap64 (d13 + x8_41)) 2).bind fun t466 => (if (t464 ++ t465).size + t466.size ≤ 9223372036854775807 then ((intrusionref12_put.f kj41 d12 4).bind fun t467 => (if ((t464 ++ t465) ++ t466).size + t467.size ≤ 9223372036854775807 then (if (((t464 ++ t465) ++ t466) ++ t467).size + d15.size ≤ 9223372036854775807 then (intrusionref12_Encode.j3 kj41 44 ((((t464 ++ t465) ++ t466) ++ t467) ++ d15) d0 d1 d2 d3 d4 d5 d6 d7 d8 d9 l0_10 true d12 d13 d14 d15) else (none)) else (none))) else (none))) else (none))) = some (r1, r2) := H
      have A45 := As A450
      clear A450
      replace H := Option.bind_eq_some_iff.mp H
      obtain ⟨t465, A460, H⟩ := H
      replace H : (if t464.size + t465.size ≤ 9223372036854775807 then ((intrusionref12_put.f kj41 (wrap64 (d13 + x8_41)) 2).bind fun t466 => (if (t464 ++ t465).size + t466.size ≤ 9223372036854775807 then ((intrusionref12_put.f kj41 d12 4).bind fun t467 => (if ((t464 ++ t465) ++ t466).size + t467.size ≤ 9223372036854775807 then (if (((t464 ++ t465) ++ t466) ++ t467).size + d15.size ≤ 9223372036854775807 then (intrusionref12_Encode.j3 kj41 44 ((((t464 ++ t465) ++ t466) ++ t467) ++ d15) d0 d1 d2 d3 d4 d5 d6 d7 d8 d9 l0_10 true d12 d13 d14 d15) else (none)) else (none))) else (none))) else (none)) = some (r1, r2) := H
      have A46 := As A460
      clear A460
      by_cases c47 : t464.size + t465.size ≤ 9223372036854775807
      ·rw [if_pos c47] at H
       have c47b0 := eq_true c47
       have c47b1 : decide (t464.size + t465.size ≤ 9223372036854775807) = true := decide_eq_true c47
       try have c47b2 : (9223372036854775807 < t464.size + t465.size) = False := eq_false (Nat.not_lt.2 c47)
       replace H := Option.bind_eq_some_iff.mp H
       obtain ⟨t466, A480, H⟩ := H
       replace H : (if (t464 ++ t465).size + t466.size ≤ 9223372036854775807 then ((intrusionref12_put.f kj41 d12 4).bind fun t467 => (if ((t464 ++ t465) ++ t466).size + t467.size ≤ 9223372036854775807 then (if (((t464 ++ t465) ++ t466) ++ t467).size + d15.size ≤ 9223372036854775807 then (intrusionref12_Encode.j3 kj41 44 ((((t464 ++ t465) ++ t466) ++ t467) ++ d15) d0 d1 d2 d3 d4 d5 d6 d7 d8 d9 l0_10 true d12 d13 d14 d15) else (none)) else (none))) else (none)) = some (r1, r2) := H
       have A48 := As A480
       clear A480
       by_cases c49 : (t464 ++ t465).size + t466.size ≤ 9223372036854775807
       ·rw [if_pos c49] at H
        have c49b0 := eq_true c49
        have c49b1 : decide ((t464 ++ t465).size + t466.size ≤ 9223372036854775807) = true := decide_eq_true c49
        (try (have c49s0 : (9223372036854775807 < (t464.size + t465.size) + t466.size) = False := by have h_ := c49; simp only [ByteArray.size_append, ByteArray.size_extract] at h_; exact eq_false (by first | omega | (omega))))
        (try (have c49s1 : (9223372036854775807 < t464.size + t465.size + t466.size) = False := by have h_ := c49; simp only [ByteArray.size_append, ByteArray.size_extract] at h_; exact eq_false (by first | omega | (omega))))
        (try (have c49s2 : ((t464.size + t465.size) + t466.size ≤ 9223372036854775807) = True := by have h_ := c49; simp only [ByteArray.size_append, Int.natCast_add, Int.toNat_natCast] at h_; first | exact eq_true h_ | exact eq_true (by omega)))
        (try (have c49s3 : decide ((t464.size + t465.size) + t466.size ≤ 9223372036854775807) = true := by have h_ := c49; first | (simp only [ByteArray.size_append, Int.toNat_natCast] at h_; first | exact beq_iff_eq.mpr h_ | exact beq_eq_false_iff_ne.mpr h_ | exact bne_iff_ne.mpr h_ | exact bne_eq_false_iff_eq.mpr h_ | (rw [beq_iff_eq.mpr h_]; rfl) | (rw [beq_eq_false_iff_ne.mpr h_]; rfl)) | (simp only [ByteArray.size_append, Int.natCast_add, Int.toNat_natCast] at h_ ⊢; first | exact h_ | simpa using h_ | simp [h_] | omega) | (simp only [ByteArray.size_append] at h_; simp at h_ ⊢; omega) | (simp only [ByteArray.size_append, Int.natCast_add, Int.toNat_natCast] at h_; simpa using h_)))
        try have c49b2 : (9223372036854775807 < (t464 ++ t465).size + t466.size) = False := eq_false (Nat.not_lt.2 c49)
        replace H := Option.bind_eq_some_iff.mp H
        obtain ⟨t467, A500, H⟩ := H
        replace H : (if ((t464 ++ t465) ++ t466).size + t467.size ≤ 9223372036854775807 then (if (((t464 ++ t465) ++ t466) ++ t467).size + d15.size ≤ 9223372036854775807 then (intrusionref12_Encode.j3 kj41 44 ((((t464 ++ t465) ++ t466) ++ t467) ++ d15) d0 d1 d2 d3 d4 d5 d6 d7 d8 d9 l0_10 true d12 d13 d14 d15) else (none)) else (none)) = some (r1, r2) := H
        have A50 := As A500
        clear A500
        by_cases c51 : ((t464 ++ t465) ++ t466).size + t467.size ≤ 9223372036854775807
        ·rw [if_pos c51] at H
         have c51b0 := eq_true c51
         have c51b1 : decide (((t464 ++ t465) ++ t466).size + t467.size ≤ 9223372036854775807) = true := decide_eq_true c51
         (try (have c51s0 : (9223372036854775807 < (t464.size + t465.size + t466.size) + t467.size) = False := by have h_ := c51; simp only [ByteArray.size_append, ByteArray.size_extract] at h_; exact eq_false (by first | omega | (omega))))
         (try (have c51s1 : (9223372036854775807 < t464.size + t465.size + t466.size + t467.size) = False := by have h_ := c51; simp only [ByteArray.size_append, ByteArray.size_extract] at h_; exact eq_false (by first | omega | (omega))))
         (try (have c51s2 : ((t464.size + t465.size + t466.size) + t467.size ≤ 9223372036854775807) = True := by have h_ := c51; simp only [ByteArray.size_append, Int.natCast_add, Int.toNat_natCast] at h_; first | exact eq_true h_ | exact eq_true (by omega)))
         (try (have c51s3 : decide ((t464.size + t465.size + t466.size) + t467.size ≤ 9223372036854775807) = true := by have h_ := c51; first | (simp only [ByteArray.size_append, Int.toNat_natCast] at h_; first | exact beq_iff_eq.mpr h_ | exact beq_eq_false_iff_ne.mpr h_ | exact bne_iff_ne.mpr h_ | exact bne_eq_false_iff_eq.mpr h_ | (rw [beq_iff_eq.mpr h_]; rfl) | (rw [beq_eq_false_iff_ne.mpr h_]; rfl)) | (simp only [ByteArray.size_append, Int.natCast_add, Int.toNat_natCast] at h_ ⊢; first | exact h_ | simpa using h_ | simp [h_] | omega) | (simp only [ByteArray.size_append] at h_; simp at h_ ⊢; omega) | (simp only [ByteArray.size_append, Int.natCast_add, Int.toNat_natCast] at h_; simpa using h_)))
         try have c51b2 : (9223372036854775807 < ((t464 ++ t465) ++ t466).size + t467.size) = False := eq_false (Nat.not_lt.2 c51)
         by_cases c52 : (((t464 ++ t465) ++ t466) ++ t467).size + d15.size ≤ 9223372036854775807
         ·rw [if_pos c52] at H
          have c52b0 := eq_true c52
          have c52b1 : decide ((((t464 ++ t465) ++ t466) ++ t467).size + d15.size ≤ 9223372036854775807) = true := decide_eq_true c52
          (try (have c52s0 : (9223372036854775807 < (t464.size + t465.size + t466.size + t467.size) + d15.size) = False := by have h_ := c52; simp only [ByteArray.size_append, ByteArray.size_extract] at h_; exact eq_false (by first | omega | (omega))))
          (try (have c52s1 : (9223372036854775807 < t464.size + t465.size + t466.size + t467.size + d15.size) = False := by have h_ := c52; simp only [ByteArray.size_append, ByteArray.size_extract] at h_; exact eq_false (by first | omega | (omega))))
          (try (have c52s2 : ((t464.size + t465.size + t466.size + t467.size) + d15.size ≤ 9223372036854775807) = True := by have h_ := c52; simp only [ByteArray.size_append, Int.natCast_add, Int.toNat_natCast] at h_; first | exact eq_true h_ | exact eq_true (by omega)))
          (try (have c52s3 : decide ((t464.size + t465.size + t466.size + t467.size) + d15.size ≤ 9223372036854775807) = true := by have h_ := c52; first | (simp only [ByteArray.size_append, Int.toNat_natCast] at h_; first | exact beq_iff_eq.mpr h_ | exact beq_eq_false_iff_ne.mpr h_ | exact bne_iff_ne.mpr h_ | exact bne_eq_false_iff_eq.mpr h_ | (rw [beq_iff_eq.mpr h_]; rfl) | (rw [beq_eq_false_iff_ne.mpr h_]; rfl)) | (simp only [ByteArray.size_append, Int.natCast_add, Int.toNat_natCast] at h_ ⊢; first | exact h_ | simpa using h_ | simp [h_] | omega) | (simp only [ByteArray.size_append] at h_; simp at h_ ⊢; omega) | (simp only [ByteArray.size_append, Int.natCast_add, Int.toNat_natCast] at h_; simpa using h_)))
          try have c52b2 : (9223372036854775807 < (((t464 ++ t465) ++ t466) ++ t467).size + d15.size) = False := eq_false (Nat.not_lt.2 c52)
          have H' := As H
          clear H
          try go_wp2
          replace BK459 := As (blk_drew BK459.out)
          replace HB := As (below_drew1 HB.out)
          refine start_ (n := 17) (S := fun w' => w'.cell? ⟨gb459, 0, none⟩ = some (.int .i64 d0) ∧ w'.cell? ⟨gb459, 1, none⟩ = some (.int .i64 d1) ∧ w'.cell? ⟨gb459, 2, none⟩ = some (.int .i64 d2) ∧ w'.cell? ⟨gb459, 3, none⟩ = some (.int .i64 d3) ∧ w'.cell? ⟨gb459, 4, none⟩ = some (.bool d4) ∧ w'.cell? ⟨gb459, 5, none⟩ = some (.int .u64 d5) ∧ w'.cell? ⟨gb459, 6, none⟩ = some (.int .u64 d6) ∧ w'.cell? ⟨gb459, 7, none⟩ = some (.bool d7) ∧ w'.cell? ⟨gb459, 8, none⟩ = some (.int .u64 d8) ∧ w'.cell? ⟨gb459, 9, none⟩ = some (.int .u64 d9) ∧ w'.cell? ⟨gb459, 10, none⟩ = some (.slice A0_10 l0_10.length c0_10) ∧ w'.cell? ⟨gb459, 11, none⟩ = some (.bool true) ∧ w'.cell? ⟨gb459, 12, none⟩ = some (.int .i64 d12) ∧ w'.cell? ⟨gb459, 13, none⟩ = some (.int .i64 d13) ∧ w'.cell? ⟨gb459, 14, none⟩ = some (.bool d14) ∧ w'.cell? ⟨gb459, 15, none⟩ = some (.string d15)) (ds := []) #[false, false, false, false, false, false, false, false, false, false, false, false, false, false, false, false, false] (by kernel_rfl) rfl rfl ⟨(blk_cell BK459.out 0).trans rfl, (blk_cell BK459.out 1).trans rfl, (blk_cell BK459.out 2).trans rfl, (blk_cell BK459.out 3).trans rfl, (blk_cell BK459.out 4).trans rfl, (blk_cell BK459.out 5).trans rfl, (blk_cell BK459.out 6).trans rfl, (blk_cell BK459.out 7).trans rfl, (blk_cell BK459.out 8).trans rfl, (blk_cell BK459.out 9).trans rfl, (blk_cell BK459.out 10).trans rfl, (blk_cell BK459.out 11).trans rfl, (blk_cell BK459.out 12).trans rfl, (blk_cell BK459.out 13).trans rfl, (blk_cell BK459.out 14).trans rfl, (blk_cell BK459.out 15).trans rfl⟩ (fun hHeld => ?_); refine with_tabW intrusionref12_Encode.tab19 intrusionref12_Encode.bits19 (fun HT_ HW_ => ?_)
          generalize wc.drew = w53 at BK459 HB hHeld ⊢
          refine kP 0 67 #[true, false, false, false, false, false, false, false, false, false, false, false, false, false, false, false, false] ?_ (any_of HT_.out (by kernel_rfl))
          refine kP 4 71 #[true, false, false, false, true, false, false, false, false, false, false, false, false, false, false, false, false] ?_ (any_of HT_.out (by kernel_rfl))
          refine kP 6 73 #[true, false, false, false, true, false, true, false, false, false, false, false, false, false, false, false, false] ?_ (any_of HT_.out (by kernel_rfl))
          refine kP 10 77 #[true, false, false, false, true, false, true, false, false, false, true, false, false, false, false, false, false] ?_ (any_of HT_.out (by kernel_rfl))
          refine kP 14 81 #[true, false, false, false, true, false, true, false, false, false, true, false, false, false, true, false, false] ?_ (any_of HT_.out (by kernel_rfl))
          refine take_ (i := 5) (N := some 72) (v := ?_) (a' := ?_) #[true, false, false, false, true, true, true, false, false, false, true, false, false, false, true, false, false] rfl rfl (take_ofW HT_.out HW_.out (by kernel_rfl)) (fun _ _ _ h => h) (Or.inl ⟨by rfl, ?_⟩) hHeld ?_ ?_
          rotate_left
          ·rintro w' ⟨s0, s1, s2, s3, s4, s5, s6, s7, s8, s9, s10, s11, s12, s13, s14, s15⟩
           go_simp
           with_reducible rfl
          rotate_left
          ·simp only [Act.put, sA, sZ, sS, i64_w, i32_w]
           rfl
          refine kP 7 74 #[true, false, false, false, true, true, true, true, false, false, true, false, false, false, true, false, false] ?_ (any_of HT_.out (by kernel_rfl))
          refine take_ (i := 11) (N := some 78) (v := ?_) (a' := ?_) #[true, false, false, false, true, true, true, true, false, false, true, true, false, false, true, false, false] rfl rfl (take_ofW HT_.out HW_.out (by kernel_rfl)) (fun _ _ _ h => h) (Or.inl ⟨by rfl, ?_⟩) hHeld ?_ ?_
          rotate_left
          ·rintro w' ⟨s0, s1, s2, s3, s4, s5, s6, s7, s8, s9, s10, s11, s12, s13, s14, s15⟩
           go_simp
           with_reducible rfl
          rotate_left
          ·simp only [Act.put, sA, sZ, sS, i64_w, i32_w]
           rfl
          refine one_ (i := 1) (N := some 68) #[true, true, false, false, true, true, true, true, false, false, true, true, false, false, true, false, false] rfl rfl (one_of HT_.out (by kernel_rfl)) (by decide) (fun K hK => ?_)
          refine goes_ Try.func38 (by kernel_rfl) rfl #[.int .i64 d3, .int .i64 1] (by rfl) rfl rfl kA ?_
          with_reducible refine (intrusionref12_put.calls kj41 d3 1 t464 _ A45.out).mono ?_
          rintro e w54 ⟨rfl, hb⟩
          refine ⟨_, rfl, ?_⟩
          replace BK459 := As (blk_below (kb BK459.out) hb)
          replace HB := As (below_step (kB1 HB.out GE459.out) hb)
          (try clear hb)
          (try clear hb2)
          (try clear hk)
          (try clear hi)
          refine hK.out _ _ ⟨(blk_cell BK459.out 0).trans rfl, (blk_cell BK459.out 1).trans rfl, (blk_cell BK459.out 2).trans rfl, (blk_cell BK459.out 3).trans rfl, (blk_cell BK459.out 4).trans rfl, (blk_cell BK459.out 5).trans rfl, (blk_cell BK459.out 6).trans rfl, (blk_cell BK459.out 7).trans rfl, (blk_cell BK459.out 8).trans rfl, (blk_cell BK459.out 9).trans rfl, (blk_cell BK459.out 10).trans rfl, (blk_cell BK459.out 11).trans rfl, (blk_cell BK459.out 12).trans rfl, (blk_cell BK459.out 13).trans rfl, (blk_cell BK459.out 14).trans rfl, (blk_cell BK459.out 15).trans rfl⟩ (fun hHeld => ?_)
          clear hK K
          refine norm_ (a' := ?_) ?_ ?_
          rotate_left
          ·show Act.put _ (some 68) _ = _
           simp only [Act.put, sA, sZ, sS, i64_w, i32_w]
           rfl
          refine one_ (i := 2) (N := some 69) #[true, true, true, false, true, true, true, true, false, false, true, true, false, false, true, false, false] rfl rfl (one_of HT_.out (by kernel_rfl)) (by decide) (fun K hK => ?_)
          refine goes_ Try.func38 (by kernel_rfl) rfl #[.int .i64 0, .int .i64 1] (by rfl) rfl rfl kA ?_
          with_reducible refine (intrusionref12_put.calls kj41 0 1 t465 _ A46.out).mono ?_
          rintro e w55 ⟨rfl, hb⟩
          refine ⟨_, rfl, ?_⟩
          replace BK459 := As (blk_below (kb BK459.out) hb)
          replace HB := As (below_step (kB1 HB.out GE459.out) hb)
          (try clear hb)
          (try clear hb2)
          (try clear hk)
          (try clear hi)
          refine hK.out _ _ ⟨(blk_cell BK459.out 0).trans rfl, (blk_cell BK459.out 1).trans rfl, (blk_cell BK459.out 2).trans rfl, (blk_cell BK459.out 3).trans rfl, (blk_cell BK459.out 4).trans rfl, (blk_cell BK459.out 5).trans rfl, (blk_cell BK459.out 6).trans rfl, (blk_cell BK459.out 7).trans rfl, (blk_cell BK459.out 8).trans rfl, (blk_cell BK459.out 9).trans rfl, (blk_cell BK459.out 10).trans rfl, (blk_cell BK459.out 11).trans rfl, (blk_cell BK459.out 12).trans rfl, (blk_cell BK459.out 13).trans rfl, (blk_cell BK459.out 14).trans rfl, (blk_cell BK459.out 15).trans rfl⟩ (fun hHeld => ?_)
          clear hK K
          refine norm_ (a' := ?_) ?_ ?_
          rotate_left
          ·show Act.put _ (some 69) _ = _
           simp only [Act.put, sA, sZ, sS, i64_w, i32_w]
           rfl
          refine kP 3 70 #[true, true, true, true, true, true, true, true, false, false, true, true, false, false, true, false, false] ?_ (any_of HT_.out (by kernel_rfl))
          refine one_ (i := 8) (N := some 75) #[true, true, true, true, true, true, true, true, true, false, true, true, false, false, true, false, false] rfl rfl (one_of HT_.out (by kernel_rfl)) (by decide) (fun K hK => ?_)
          refine goes_ Try.func38 (by kernel_rfl) rfl #[.int .i64 (wrap64 (d13 + x8_41)), .int .i64 2] (by rfl) rfl rfl kA ?_
          with_reducible refine (intrusionref12_put.calls kj41 (wrap64 (d13 + x8_41)) 2 t466 _ A48.out).mono ?_
          rintro e w56 ⟨rfl, hb⟩
          refine ⟨_, rfl, ?_⟩
          replace BK459 := As (blk_below (kb BK459.out) hb)
          replace HB := As (below_step (kB1 HB.out GE459.out) hb)
          (try clear hb)
          (try clear hb2)
          (try clear hk)
          (try clear hi)
          refine hK.out _ _ ⟨(blk_cell BK459.out 0).trans rfl, (blk_cell BK459.out 1).trans rfl, (blk_cell BK459.out 2).trans rfl, (blk_cell BK459.out 3).trans rfl, (blk_cell BK459.out 4).trans rfl, (blk_cell BK459.out 5).trans rfl, (blk_cell BK459.out 6).trans rfl, (blk_cell BK459.out 7).trans rfl, (blk_cell BK459.out 8).trans rfl, (blk_cell BK459.out 9).trans rfl, (blk_cell BK459.out 10).trans rfl, (blk_cell BK459.out 11).trans rfl, (blk_cell BK459.out 12).trans rfl, (blk_cell BK459.out 13).trans rfl, (blk_cell BK459.out 14).trans rfl, (blk_cell BK459.out 15).trans rfl⟩ (fun hHeld => ?_)
          clear hK K
          refine norm_ (a' := ?_) ?_ ?_
          rotate_left
          ·show Act.put _ (some 75) _ = _
           simp only [Act.put, sA, sZ, sS, i64_w, i32_w]
           rfl
          refine kP 9 76 #[true, true, true, true, true, true, true, true, true, true, true, true, false, false, true, false, false] ?_ (any_of HT_.out (by kernel_rfl))
          refine one_ (i := 12) (N := some 79) #[true, true, true, true, true, true, true, true, true, true, true, true, true, false, true, false, false] rfl rfl (one_of HT_.out (by kernel_rfl)) (by decide) (fun K hK => ?_)
          refine goes_ Try.func38 (by kernel_rfl) rfl #[.int .i64 d12, .int .i64 4] (by rfl) rfl rfl kA ?_
          with_reducible refine (intrusionref12_put.calls kj41 d12 4 t467 _ A50.out).mono ?_
          rintro e w57 ⟨rfl, hb⟩
          refine ⟨_, rfl, ?_⟩
          replace BK459 := As (blk_below (kb BK459.out) hb)
          replace HB := As (below_step (kB1 HB.out GE459.out) hb)
          (try clear hb)
          (try clear hb2)
          (try clear hk)
          (try clear hi)
          refine hK.out _ _ ⟨(blk_cell BK459.out 0).trans rfl, (blk_cell BK459.out 1).trans rfl, (blk_cell BK459.out 2).trans rfl, (blk_cell BK459.out 3).trans rfl, (blk_cell BK459.out 4).trans rfl, (blk_cell BK459.out 5).trans rfl, (blk_cell BK459.out 6).trans rfl, (blk_cell BK459.out 7).trans rfl, (blk_cell BK459.out 8).trans rfl, (blk_cell BK459.out 9).trans rfl, (blk_cell BK459.out 10).trans rfl, (blk_cell BK459.out 11).trans rfl, (blk_cell BK459.out 12).trans rfl, (blk_cell BK459.out 13).trans rfl, (blk_cell BK459.out 14).trans rfl, (blk_cell BK459.out 15).trans rfl⟩ (fun hHeld => ?_)
          clear hK K
          refine norm_ (a' := ?_) ?_ ?_
          rotate_left
          ·show Act.put _ (some 79) _ = _
           simp only [Act.put, sA, sZ, sS, i64_w, i32_w]
           rfl
          refine kP 13 80 #[true, true, true, true, true, true, true, true, true, true, true, true, true, true, true, false, false] ?_ (any_of HT_.out (by kernel_rfl))
          refine kP 15 82 #[true, true, true, true, true, true, true, true, true, true, true, true, true, true, true, true, false] ?_ (any_of HT_.out (by kernel_rfl))
          refine kP 16 7 #[true, true, true, true, true, true, true, true, true, true, true, true, true, true, true, true, true] ?_ (any_of HT_.out (by kernel_rfl))
          refine done_ (done_of HT_.out (by kernel_rfl)) ?_
          try go_wp2
          go_meet
          case rel => exact ⟨_, (44), ((((t464 ++ t465) ++ t466) ++ t467) ++ d15), kS, kS, H', ⟨by have := HK1.out; have := HJ41.out; first | omega | exact Nat.le_refl _⟩, ⟨kb BK459.out⟩, ⟨kB1 HB.out GE459.out⟩⟩
         rw [if_neg c52] at H
         exact absurd H (by simp)
        rw [if_neg c51] at H
        exact absurd H (by simp)
       rw [if_neg c49] at H
       exact absurd H (by simp)
      rw [if_neg c47] at H
      exact absurd H (by simp)
    replace c41 := Bool.eq_false_iff.mpr c41
    subst c41
    have H1 : (intrusionref12_Encode.j3 k1 d3 d15 d0 d1 d2 d3 d4 d5 d6 d7 d8 d9 l0_10 false d12 d13 d14 d15) = some (r1, r2) := by rw [if_neg (show ¬ (false = true) by decide)] at H; exact H
    clear H
    have H := H1
    clear H1
    have H' := As H
    clear H
    go_wp2
    go_meet
    case rel => exact ⟨_, (d3), (d15), kS, kS, H', ⟨by have := HK1.out; first | omega | exact Nat.le_refl _⟩, ⟨kb BK459.out⟩, ⟨kB1 HB.out GE459.out⟩⟩
   clear HC39
   try clear c11
   try clear c11b0
   try clear c37
   try clear c37b0
   try clear c37b1
   try clear hcz40_0
   try clear hfz40_0
   obtain ⟨kq, x6_38, x7_38, rfl, rfl, HA, HJ38, BK459, HB⟩ := hcut
   cases kq with
   | zero => exact absurd HA.out (by simp [intrusionref12_Encode.j3])
   | succ kj38 =>
    have H := HA.out
    clear HA
    simp only [intrusionref12_Encode.j3] at H
    have H' := As H
    clear H
    have hcz58_0 := cells_16 BK459.out
    have hfz58_0 := fun j_ => blk_frozen BK459.out j_
    go_wp2
    go_loopg [6, 7, 9] kj38 (fun kq v6 v7 v9 w' => ∃ (x6_3 : Int) (x7_3 : ByteArray) (x9_3 : Int), v6 = .int .i64 x6_3 ∧ v7 = .string x7_3 ∧ v9 = .int .i64 x9_3 ∧ Aside0 (intrusionref12_Encode.l1 kq x6_3 x7_3 x9_3 d0 d1 d2 d3 d4 d5 d6 d7 d8 d9 l0_10 d11 d12 d13 d14 d15 = some (r1, r2)) ∧ Aside0 (kq ≤ kj38) ∧ Aside0 (w'.heap[gb459]? = some (.cells #[.int .i64 d0, .int .i64 d1, .int .i64 d2, .int .i64 d3, .bool d4, .int .u64 d5, .int .u64 d6, .bool d7, .int .u64 d8, .int .u64 d9, (.slice A0_10 l0_10.length c0_10), .bool d11, .int .i64 d12, .int .i64 d13, .bool d14, .string d15] 28 (0, 0))) ∧ Aside0 (Below w.heap.size w w'))
    case atStart => exact ⟨(x6_38), (x7_38), (wrap64 ((l0_10.length : Int) - 1)), kS, kS, kS, H', ⟨Nat.le_refl _⟩, ⟨kb BK459.out⟩, ⟨kB1 HB.out GE459.out⟩⟩
    clear H'
    try clear hcz58_0
    try clear hfz58_0
    obtain ⟨x6_3, x7_3, x9_3, rfl, rfl, rfl, HA, HK3, BK459, HB⟩ := hrel
    cases gk with
    | zero => exact absurd HA.out (by simp [intrusionref12_Encode.l1])
    | succ k3 =>
     have H := HA.out
     clear HA
     simp only [intrusionref12_Encode.l1] at H
     by_cases c59 : x9_3 ≥ 0
     ·rw [if_pos c59] at H
      have c59b0 : decide (0 ≤ x9_3) = true := decide_eq_true c59
      clear c59
      by_cases c60 : 0 ≤ x9_3
      ·rw [if_pos c60] at H
       have c60b0 : decide (0 ≤ x9_3) = true := decide_eq_true c60
       clear c60
       by_cases c61 : x9_3 < (l0_10.length : Int)
       ·rw [if_pos c61] at H
        have c61b0 : decide (x9_3 < (l0_10.length : Int)) = true := decide_eq_true c61
        clear c61
        replace H := Option.bind_eq_some_iff.mp H
        obtain ⟨t470, A620, H⟩ := H
        replace H : ((intrusionref12_put.f k3 (wrap64 (Int.tdiv (wrap64 ((((rd_T60 l0_10 x9_3).f1).size : Int) - 6)) 8)) 1).bind fun t471 => (if t470.size + t471.size ≤ 9223372036854775807 then (if (t470 ++ t471).size + ((rd_T60 l0_10 x9_3).f1).size ≤ 9223372036854775807 then (if ((t470 ++ t471) ++ ((rd_T60 l0_10 x9_3).f1)).size + x7_3.size ≤ 9223372036854775807 then (intrusionref12_Encode.l1 k3 ((rd_T60 l0_10 x9_3).f0) (((t470 ++ t471) ++ ((rd_T60 l0_10 x9_3).f1)) ++ x7_3) (wrap64 (x9_3 - 1)) d0 d1 d2 d3 d4 d5 d6 d7 d8 d9 l0_10 d11 d12 d13 d14 d15) else (none)) else (none)) else (none))) = some (r1, r2) := H
        have A62 := As A620
        clear A620
        replace H := Option.bind_eq_some_iff.mp H
        obtain ⟨t471, A630, H⟩ := H
        replace H : (if t470.size + t471.size ≤ 9223372036854775807 then (if (t470 ++ t471).size + ((rd_T60 l0_10 x9_3).f1).size ≤ 9223372036854775807 then (if ((t470 ++ t471) ++ ((rd_T60 l0_10 x9_3).f1)).size + x7_3.size ≤ 9223372036854775807 then (intrusionref12_Encode.l1 k3 ((rd_T60 l0_10 x9_3).f0) (((t470 ++ t471) ++ ((rd_T60 l0_10 x9_3).f1)) ++ x7_3) (wrap64 (x9_3 - 1)) d0 d1 d2 d3 d4 d5 d6 d7 d8 d9 l0_10 d11 d12 d13 d14 d15) else (none)) else (none)) else (none)) = some (r1, r2) := H
        have A63 := As A630
        clear A630
        by_cases c64 : t470.size + t471.size ≤ 9223372036854775807
        ·rw [if_pos c64] at H
         have c64b0 := eq_true c64
         have c64b1 : decide (t470.size + t471.size ≤ 9223372036854775807) = true := decide_eq_true c64
         try have c64b2 : (9223372036854775807 < t470.size + t471.size) = False := eq_false (Nat.not_lt.2 c64)
         by_cases c65 : (t470 ++ t471).size + ((rd_T60 l0_10 x9_3).f1).size ≤ 9223372036854775807
         ·rw [if_pos c65] at H
          have c65b0 := eq_true c65
          have c65b1 : decide ((t470 ++ t471).size + ((rd_T60 l0_10 x9_3).f1).size ≤ 9223372036854775807) = true := decide_eq_true c65
          (try (have c65s0 : (9223372036854775807 < t470.size + t471.size + rd_T60 l0_10 x9_3.f1.size) = False := by have h_ := c65; simp only [ByteArray.size_append, ByteArray.size_extract] at h_; exact eq_false (by first | omega | (omega))))
          (try (have c65s1 : (9223372036854775807 < (t470.size + t471.size) + ((rd_T60 l0_10 x9_3).f1).size) = False := by have h_ := c65; simp only [ByteArray.size_append, ByteArray.size_extract] at h_; exact eq_false (by first | omega | (omega))))
          (try (have c65s2 : ((t470.size + t471.size) + ((rd_T60 l0_10 x9_3).f1).size ≤ 9223372036854775807) = True := by have h_ := c65; simp only [ByteArray.size_append, Int.natCast_add, Int.toNat_natCast] at h_; first | exact eq_true h_ | exact eq_true (by omega)))
          (try (have c65s3 : decide ((t470.size + t471.size) + ((rd_T60 l0_10 x9_3).f1).size ≤ 9223372036854775807) = true := by have h_ := c65; first | (simp only [ByteArray.size_append, Int.toNat_natCast] at h_; first | exact beq_iff_eq.mpr h_ | exact beq_eq_false_iff_ne.mpr h_ | exact bne_iff_ne.mpr h_ | exact bne_eq_false_iff_eq.mpr h_ | (rw [beq_iff_eq.mpr h_]; rfl) | (rw [beq_eq_false_iff_ne.mpr h_]; rfl)) | (simp only [ByteArray.size_append, Int.natCast_add, Int.toNat_natCast] at h_ ⊢; first | exact h_ | simpa using h_ | simp [h_] | omega) | (simp only [ByteArray.size_append] at h_; simp at h_ ⊢; omega) | (simp only [ByteArray.size_append, Int.natCast_add, Int.toNat_natCast] at h_; simpa using h_)))
          try have c65b2 : (9223372036854775807 < (t470 ++ t471).size + ((rd_T60 l0_10 x9_3).f1).size) = False := eq_false (Nat.not_lt.2 c65)
          by_cases c66 : ((t470 ++ t471) ++ ((rd_T60 l0_10 x9_3).f1)).size + x7_3.size ≤ 9223372036854775807
          ·rw [if_pos c66] at H
           have c66b0 := eq_true c66
           have c66b1 : decide (((t470 ++ t471) ++ ((rd_T60 l0_10 x9_3).f1)).size + x7_3.size ≤ 9223372036854775807) = true := decide_eq_true c66
           (try (have c66s0 : (9223372036854775807 < t470.size + t471.size + rd_T60 l0_10 x9_3.f1.size + x7_3.size) = False := by have h_ := c66; simp only [ByteArray.size_append, ByteArray.size_extract] at h_; exact eq_false (by first | omega | (omega))))
           (try (have c66s1 : (9223372036854775807 < (t470.size + t471.size + ((rd_T60 l0_10 x9_3).f1).size) + x7_3.size) = False := by have h_ := c66; simp only [ByteArray.size_append, ByteArray.size_extract] at h_; exact eq_false (by first | omega | (omega))))
           (try (have c66s2 : ((t470.size + t471.size + ((rd_T60 l0_10 x9_3).f1).size) + x7_3.size ≤ 9223372036854775807) = True := by have h_ := c66; simp only [ByteArray.size_append, Int.natCast_add, Int.toNat_natCast] at h_; first | exact eq_true h_ | exact eq_true (by omega)))
           (try (have c66s3 : decide ((t470.size + t471.size + ((rd_T60 l0_10 x9_3).f1).size) + x7_3.size ≤ 9223372036854775807) = true := by have h_ := c66; first | (simp only [ByteArray.size_append, Int.toNat_natCast] at h_; first | exact beq_iff_eq.mpr h_ | exact beq_eq_false_iff_ne.mpr h_ | exact bne_iff_ne.mpr h_ | exact bne_eq_false_iff_eq.mpr h_ | (rw [beq_iff_eq.mpr h_]; rfl) | (rw [beq_eq_false_iff_ne.mpr h_]; rfl)) | (simp only [ByteArray.size_append, Int.natCast_add, Int.toNat_natCast] at h_ ⊢; first | exact h_ | simpa using h_ | simp [h_] | omega) | (simp only [ByteArray.size_append] at h_; simp at h_ ⊢; omega) | (simp only [ByteArray.size_append, Int.natCast_add, Int.toNat_natCast] at h_; simpa using h_)))
           try have c66b2 : (9223372036854775807 < ((t470 ++ t471) ++ ((rd_T60 l0_10 x9_3).f1)).size + x7_3.size) = False := eq_false (Nat.not_lt.2 c66)
           have H' := As H
           clear H
           have hcz67_0 := cells_16 BK459.out
           have hfz67_0 := fun j_ => blk_frozen BK459.out j_
           have p468 : 0 ≤ (x9_3 : Int) := of_decide_eq_true (by first | (with_reducible assumption) | assumption)
           have q468 : x9_3 < (l0_10.length : Int) := of_decide_eq_true (by first | (with_reducible assumption) | assumption)
           obtain ⟨ad468, e468, hx468_0, hx468_1⟩ := at_T60 HR0_10.out x9_3 p468 q468
           cases e468
           replace hx468_0 := hcell HB.out hx468_0
           replace hx468_1 := hcell HB.out hx468_1
           replace p468 := eq_true p468
           replace q468 := eq_true q468
           try go_wp2_with (first | ((with_reducible refine gate_dst (N := 10) rfl ?_); (try (refine gate_guard (by rfl) ?_; dsimp only)); refine box_event rfl (N := 10) rfl (cs := #[.int .i64 0, .string (⟨#[]⟩ : ByteArray)]) (t := 60) kG ?_; intro gb469 hg w68 hbox hb; have BK469 := As (hbox); have GW469 := As ((by rw [hg]; exact (below_size (kB1 HB.out GE459.out)) : w.heap.size ≤ gb469)); have GE469 := As ((by rw [hg]; exact (below_size (kB1 HB.out GE459.out)) : w.heap.size ≤ gb469)); replace HB := As (below_step (kB1 HB.out GE459.out) hb); have NB459_469 := As ((by rw [hg]; exact Nat.ne_of_lt (blk_lt (kb BK459.out)) : gb459 ≠ gb469)); have NB469_459 := As ((by rw [hg]; exact Nat.ne_of_gt (blk_lt (kb BK459.out)) : gb469 ≠ gb459)); replace BK459 := As (blk_below (kb BK459.out) hb); clear hb hbox hg; have hnb69 := NB469_459.out; have hnc69 := NB459_469.out; have hcz70_0 := cells_2 BK469.out; have hfz70_0 := fun j_ => blk_frozen BK469.out j_))
           have n0_ : Aside0 (((w68.setCell ⟨gb469, 0, none⟩ (.int .i64 ((rd_T60 l0_10 x9_3).f0))).setCell ⟨gb469, 1, none⟩ (.string ((rd_T60 l0_10 x9_3).f1))).heap[gb459]? = some (.cells #[.int .i64 d0, .int .i64 d1, .int .i64 d2, .int .i64 d3, .bool d4, .int .u64 d5, .int .u64 d6, .bool d7, .int .u64 d8, .int .u64 d9, .slice (some ad468) l0_10.length c0_10, .bool d11, .int .i64 d12, .int .i64 d13, .bool d14, .string d15] 28 (0, 0))) := ⟨by refine kb ?_; refine blk_far ?_ NB459_469.out _; refine kb ?_; refine blk_far ?_ NB459_469.out _; exact kb BK459.out⟩
           have n1_ : Aside0 (((w68.setCell ⟨gb469, 0, none⟩ (.int .i64 ((rd_T60 l0_10 x9_3).f0))).setCell ⟨gb469, 1, none⟩ (.string ((rd_T60 l0_10 x9_3).f1))).heap[gb469]? = some (.cells #[.int .i64 ((rd_T60 l0_10 x9_3).f0), .string ((rd_T60 l0_10 x9_3).f1)] 60 (0, 0))) := ⟨by refine kb ?_; refine blk_put (cs := #[.int .i64 ((rd_T60 l0_10 x9_3).f0), .string (⟨#[]⟩ : ByteArray)]) ?_ 1 _ rfl; refine kb ?_; refine blk_put (cs := #[.int .i64 0, .string (⟨#[]⟩ : ByteArray)]) ?_ 0 _ rfl; exact kb BK469.out⟩
           have n2_ : Aside0 (Below w.heap.size w ((w68.setCell ⟨gb469, 0, none⟩ (.int .i64 ((rd_T60 l0_10 x9_3).f0))).setCell ⟨gb469, 1, none⟩ (.string ((rd_T60 l0_10 x9_3).f1)))) := ⟨kB2 HB.out GE459.out GE469.out⟩
           (try clear BK459)
           (try clear BK469)
           (try clear HB)
           generalize ((w68.setCell ⟨gb469, 0, none⟩ (.int .i64 ((rd_T60 l0_10 x9_3).f0))).setCell ⟨gb469, 1, none⟩ (.string ((rd_T60 l0_10 x9_3).f1))) = w71 at n0_ n1_ n2_ ⊢
           have BK459 := n0_
           have BK469 := n1_
           have HB := n2_
           clear n0_ n1_ n2_
           replace BK459 := As (blk_drew BK459.out)
           replace BK469 := As (blk_drew BK469.out)
           replace HB := As (below_drew1 HB.out)
           refine start_ (n := 15) (S := fun w' => w'.cell? ⟨gb469, 0, none⟩ = some (.int .i64 ((rd_T60 l0_10 x9_3).f0)) ∧ w'.cell? ⟨gb469, 1, none⟩ = some (.string ((rd_T60 l0_10 x9_3).f1))) (ds := []) #[false, false, false, false, false, false, false, false, false, false, false, false, false, false, false] (by kernel_rfl) rfl rfl ⟨(blk_cell BK469.out 0).trans rfl, (blk_cell BK469.out 1).trans rfl⟩ (fun hHeld => ?_); refine with_tabW intrusionref12_Encode.tab25 intrusionref12_Encode.bits25 (fun HT_ HW_ => ?_)
           generalize w71.drew = w72 at BK459 BK469 HB hHeld ⊢
           refine kP 0 96 #[true, false, false, false, false, false, false, false, false, false, false, false, false, false, false] ?_ (any_of HT_.out (by kernel_rfl))
           refine kP 2 98 #[true, false, true, false, false, false, false, false, false, false, false, false, false, false, false] ?_ (any_of HT_.out (by kernel_rfl))
           refine kP 9 105 #[true, false, true, false, false, false, false, false, false, true, false, false, false, false, false] ?_ (any_of HT_.out (by kernel_rfl))
           refine kP 12 108 #[true, false, true, false, false, false, false, false, false, true, false, false, true, false, false] ?_ (any_of HT_.out (by kernel_rfl))
           refine take_ (i := 3) (N := some 99) (v := ?_) (a' := ?_) #[true, false, true, true, false, false, false, false, false, true, false, false, true, false, false] rfl rfl (take_ofW HT_.out HW_.out (by kernel_rfl)) (fun _ _ _ h => h) (Or.inl ⟨by rfl, ?_⟩) hHeld ?_ ?_
           rotate_left
           ·rintro w' ⟨s0, s1⟩
            go_simp
            with_reducible rfl
           rotate_left
           ·simp only [Act.put, sA, sZ, sS, i64_w, i32_w]
            rfl
           refine kP 4 100 #[true, false, true, true, true, false, false, false, false, true, false, false, true, false, false] ?_ (any_of HT_.out (by kernel_rfl))
           refine kP 5 101 #[true, false, true, true, true, true, false, false, false, true, false, false, true, false, false] ?_ (any_of HT_.out (by kernel_rfl))
           refine kP 6 102 #[true, false, true, true, true, true, true, false, false, true, false, false, true, false, false] ?_ (any_of HT_.out (by kernel_rfl))
           refine take_ (i := 10) (N := some 106) (v := ?_) (a' := ?_) #[true, false, true, true, true, true, true, false, false, true, true, false, true, false, false] rfl rfl (take_ofW HT_.out HW_.out (by kernel_rfl)) (fun _ _ _ h => h) (Or.inl ⟨by rfl, ?_⟩) hHeld ?_ ?_
           rotate_left
           ·rintro w' ⟨s0, s1⟩
            go_simp
            with_reducible rfl
           rotate_left
           ·simp only [Act.put, sA, sZ, sS, i64_w, i32_w]
            rfl
           refine one_ (i := 1) (N := some 97) #[true, true, true, true, true, true, true, false, false, true, true, false, true, false, false] rfl rfl (one_of HT_.out (by kernel_rfl)) (by decide) (fun K hK => ?_)
           refine goes_ Try.func38 (by kernel_rfl) rfl #[.int .i64 x6_3, .int .i64 1] (by rfl) rfl rfl kA ?_
           with_reducible refine (intrusionref12_put.calls k3 x6_3 1 t470 _ A62.out).mono ?_
           rintro e w73 ⟨rfl, hb⟩
           refine ⟨_, rfl, ?_⟩
           replace BK459 := As (blk_below (kb BK459.out) hb)
           replace BK469 := As (blk_below (kb BK469.out) hb)
           replace HB := As (below_step (kB2 HB.out GE459.out GE469.out) hb)
           (try clear hb)
           (try clear hb2)
           (try clear hk)
           (try clear hi)
           refine hK.out _ _ ⟨(blk_cell BK469.out 0).trans rfl, (blk_cell BK469.out 1).trans rfl⟩ (fun hHeld => ?_)
           clear hK K
           refine norm_ (a' := ?_) ?_ ?_
           rotate_left
           ·show Act.put _ (some 97) _ = _
            simp only [Act.put, sA, sZ, sS, i64_w, i32_w]
            rfl
           refine one_ (i := 7) (N := some 103) #[true, true, true, true, true, true, true, true, false, true, true, false, true, false, false] rfl rfl (one_of HT_.out (by kernel_rfl)) (by decide) (fun K hK => ?_)
           refine goes_ Try.func38 (by kernel_rfl) rfl #[.int .i64 (wrap64 (Int.tdiv (wrap64 ((((rd_T60 l0_10 x9_3).f1).size : Int) - 6)) 8)), .int .i64 1] (by rfl) rfl rfl kA ?_
           with_reducible refine (intrusionref12_put.calls k3 (wrap64 (Int.tdiv (wrap64 ((((rd_T60 l0_10 x9_3).f1).size : Int) - 6)) 8)) 1 t471 _ A63.out).mono ?_
           rintro e w74 ⟨rfl, hb⟩
           refine ⟨_, rfl, ?_⟩
           replace BK459 := As (blk_below (kb BK459.out) hb)
           replace BK469 := As (blk_below (kb BK469.out) hb)
           replace HB := As (below_step (kB2 HB.out GE459.out GE469.out) hb)
           (try clear hb)
           (try clear hb2)
           (try clear hk)
           (try clear hi)
           refine hK.out _ _ ⟨(blk_cell BK469.out 0).trans rfl, (blk_cell BK469.out 1).trans rfl⟩ (fun hHeld => ?_)
           clear hK K
           refine norm_ (a' := ?_) ?_ ?_
           rotate_left
           ·show Act.put _ (some 103) _ = _
            simp only [Act.put, sA, sZ, sS, i64_w, i32_w]
            rfl
           refine kP 8 104 #[true, true, true, true, true, true, true, true, true, true, true, false, true, false, false] ?_ (any_of HT_.out (by kernel_rfl))
           refine kP 11 107 #[true, true, true, true, true, true, true, true, true, true, true, true, true, false, false] ?_ (any_of HT_.out (by kernel_rfl))
           refine kP 13 109 #[true, true, true, true, true, true, true, true, true, true, true, true, true, true, false] ?_ (any_of HT_.out (by kernel_rfl))
           refine kP 14 7 #[true, true, true, true, true, true, true, true, true, true, true, true, true, true, true] ?_ (any_of HT_.out (by kernel_rfl))
           refine done_ (done_of HT_.out (by kernel_rfl)) ?_
           have hcz75_0 := cells_2 BK469.out
           have hfz75_0 := fun j_ => blk_frozen BK469.out j_
           try go_wp2
           go_roundg k3
           case measure => have := HK1.out; have := HJ38.out; have := HK3.out; omega
           case rel => exact ⟨((rd_T60 l0_10 x9_3).f0), (((t470 ++ t471) ++ ((rd_T60 l0_10 x9_3).f1)) ++ x7_3), (wrap64 (x9_3 - 1)), kS, kS, kS, H', ⟨by have := HK1.out; have := HJ38.out; have := HK3.out; omega⟩, ⟨kb BK459.out⟩, ⟨kB2 HB.out GE459.out GE469.out⟩⟩
          rw [if_neg c66] at H
          exact absurd H (by simp)
         rw [if_neg c65] at H
         exact absurd H (by simp)
        rw [if_neg c64] at H
        exact absurd H (by simp)
       rw [if_neg c61] at H
       exact absurd H (by simp)
      rw [if_neg c60] at H
      exact absurd H (by simp)
     rw [if_neg c59] at H
     have c59b0 : decide (0 ≤ x9_3) = false := decide_eq_false c59
     clear c59
     by_cases c76 : (x7_3.size : Int) > 65535
     ·rw [if_pos c76] at H
      have c76b0 : decide (65535 < (x7_3.size : Int)) = true := decide_eq_true c76
      have c76b1 : decide (65535 < x7_3.size) = true := decide_eq_true (by omega)
      clear c76
      simp only [Option.some.injEq, Prod.mk.injEq] at H
      obtain ⟨rfl, rfl⟩ := H
      go_wp2
      go_ret2
      exact ⟨kE, by exact kB1 HB.out GE459.out⟩
     rw [if_neg c76] at H
     have c76b0 : decide (65535 < (x7_3.size : Int)) = false := decide_eq_false c76
     have c76b1 : decide (65535 < x7_3.size) = false := decide_eq_false (by omega)
     clear c76
     replace H := Option.bind_eq_some_iff.mp H
     obtain ⟨t472, A770, H⟩ := H
     replace H : ((intrusionref12_put.f k3 (x7_3.size : Int) 2).bind fun t473 => (if t472.size + t473.size ≤ 9223372036854775807 then ((intrusionref12_put.f k3 x6_3 1).bind fun t474 => (if (t472 ++ t473).size + t474.size ≤ 9223372036854775807 then ((intrusionref12_put.f k3 d2 1).bind fun t475 => (if ((t472 ++ t473) ++ t474).size + t475.size ≤ 9223372036854775807 then ((intrusionref06_Bytes.f k3 d4 d5 d6).bind fun t476 => (if (((t472 ++ t473) ++ t474) ++ t475).size + t476.size ≤ 9223372036854775807 then ((intrusionref06_Bytes.f k3 d7 d8 d9).bind fun t477 => (if ((((t472 ++ t473) ++ t474) ++ t475) ++ t476).size + t477.size ≤ 9223372036854775807 then (if (((((t472 ++ t473) ++ t474) ++ t475) ++ t476) ++ t477).size + x7_3.size ≤ 9223372036854775807 then (some ((((((t472 ++ t473) ++ t474) ++ t475) ++ t476) ++ t477) ++ x7_3, 0)) else (none)) else (none))) else (none))) else (none))) else (none))) else (none))) = some (r1, r2) := H
     have A77 := As A770
     clear A770
     replace H := Option.bind_eq_some_iff.mp H
     obtain ⟨t473, A780, H⟩ := H
     replace H : (if t472.size + t473.size ≤ 9223372036854775807 then ((intrusionref12_put.f k3 x6_3 1).bind fun t474 => (if (t472 ++ t473).size + t474.size ≤ 9223372036854775807 then ((intrusionref12_put.f k3 d2 1).bind fun t475 => (if ((t472 ++ t473) ++ t474).size + t475.size ≤ 9223372036854775807 then ((intrusionref06_Bytes.f k3 d4 d5 d6).bind fun t476 => (if (((t472 ++ t473) ++ t474) ++ t475).size + t476.size ≤ 9223372036854775807 then ((intrusionref06_Bytes.f k3 d7 d8 d9).bind fun t477 => (if ((((t472 ++ t473) ++ t474) ++ t475) ++ t476).size + t477.size ≤ 9223372036854775807 then (if (((((t472 ++ t473) ++ t474) ++ t475) ++ t476) ++ t477).size + x7_3.size ≤ 9223372036854775807 then (some ((((((t472 ++ t473) ++ t474) ++ t475) ++ t476) ++ t477) ++ x7_3, 0)) else (none)) else (none))) else (none))) else (none))) else (none))) else (none)) = some (r1, r2) := H
     have A78 := As A780
     clear A780
     by_cases c79 : t472.size + t473.size ≤ 9223372036854775807
     ·rw [if_pos c79] at H
      have c79b0 := eq_true c79
      have c79b1 : decide (t472.size + t473.size ≤ 9223372036854775807) = true := decide_eq_true c79
      try have c79b2 : (9223372036854775807 < t472.size + t473.size) = False := eq_false (Nat.not_lt.2 c79)
      replace H := Option.bind_eq_some_iff.mp H
      obtain ⟨t474, A800, H⟩ := H
      replace H : (if (t472 ++ t473).size + t474.size ≤ 9223372036854775807 then ((intrusionref12_put.f k3 d2 1).bind fun t475 => (if ((t472 ++ t473) ++ t474).size + t475.size ≤ 9223372036854775807 then ((intrusionref06_Bytes.f k3 d4 d5 d6).bind fun t476 => (if (((t472 ++ t473) ++ t474) ++ t475).size + t476.size ≤ 9223372036854775807 then ((intrusionref06_Bytes.f k3 d7 d8 d9).bind fun t477 => (if ((((t472 ++ t473) ++ t474) ++ t475) ++ t476).size + t477.size ≤ 9223372036854775807 then (if (((((t472 ++ t473) ++ t474) ++ t475) ++ t476) ++ t477).size + x7_3.size ≤ 9223372036854775807 then (some ((((((t472 ++ t473) ++ t474) ++ t475) ++ t476) ++ t477) ++ x7_3, 0)) else (none)) else (none))) else (none))) else (none))) else (none)) = some (r1, r2) := H
      have A80 := As A800
      clear A800
      by_cases c81 : (t472 ++ t473).size + t474.size ≤ 9223372036854775807
      ·rw [if_pos c81] at H
       have c81b0 := eq_true c81
       have c81b1 : decide ((t472 ++ t473).size + t474.size ≤ 9223372036854775807) = true := decide_eq_true c81
       (try (have c81s0 : (9223372036854775807 < (t472.size + t473.size) + t474.size) = False := by have h_ := c81; simp only [ByteArray.size_append, ByteArray.size_extract] at h_; exact eq_false (by first | omega | (omega))))
       (try (have c81s1 : (9223372036854775807 < t472.size + t473.size + t474.size) = False := by have h_ := c81; simp only [ByteArray.size_append, ByteArray.size_extract] at h_; exact eq_false (by first | omega | (omega))))
       (try (have c81s2 : ((t472.size + t473.size) + t474.size ≤ 9223372036854775807) = True := by have h_ := c81; simp only [ByteArray.size_append, Int.natCast_add, Int.toNat_natCast] at h_; first | exact eq_true h_ | exact eq_true (by omega)))
       (try (have c81s3 : decide ((t472.size + t473.size) + t474.size ≤ 9223372036854775807) = true := by have h_ := c81; first | (simp only [ByteArray.size_append, Int.toNat_natCast] at h_; first | exact beq_iff_eq.mpr h_ | exact beq_eq_false_iff_ne.mpr h_ | exact bne_iff_ne.mpr h_ | exact bne_eq_false_iff_eq.mpr h_ | (rw [beq_iff_eq.mpr h_]; rfl) | (rw [beq_eq_false_iff_ne.mpr h_]; rfl)) | (simp only [ByteArray.size_append, Int.natCast_add, Int.toNat_natCast] at h_ ⊢; first | exact h_ | simpa using h_ | simp [h_] | omega) | (simp only [ByteArray.size_append] at h_; simp at h_ ⊢; omega) | (simp only [ByteArray.size_append, Int.natCast_add, Int.toNat_natCast] at h_; simpa using h_)))
       try have c81b2 : (9223372036854775807 < (t472 ++ t473).size + t474.size) = False := eq_false (Nat.not_lt.2 c81)
       replace H := Option.bind_eq_some_iff.mp H
       obtain ⟨t475, A820, H⟩ := H
       replace H : (if ((t472 ++ t473) ++ t474).size + t475.size ≤ 9223372036854775807 then ((intrusionref06_Bytes.f k3 d4 d5 d6).bind fun t476 => (if (((t472 ++ t473) ++ t474) ++ t475).size + t476.size ≤ 9223372036854775807 then ((intrusionref06_Bytes.f k3 d7 d8 d9).bind fun t477 => (if ((((t472 ++ t473) ++ t474) ++ t475) ++ t476).size + t477.size ≤ 9223372036854775807 then (if (((((t472 ++ t473) ++ t474) ++ t475) ++ t476) ++ t477).size + x7_3.size ≤ 9223372036854775807 then (some ((((((t472 ++ t473) ++ t474) ++ t475) ++ t476) ++ t477) ++ x7_3, 0)) else (none)) else (none))) else (none))) else (none)) = some (r1, r2) := H
       have A82 := As A820
       clear A820
       by_cases c83 : ((t472 ++ t473) ++ t474).size + t475.size ≤ 9223372036854775807
       ·rw [if_pos c83] at H
        have c83b0 := eq_true c83
        have c83b1 : decide (((t472 ++ t473) ++ t474).size + t475.size ≤ 9223372036854775807) = true := decide_eq_true c83
        (try (have c83s0 : (9223372036854775807 < t472.size + t473.size + t474.size + t475.size) = False := by have h_ := c83; simp only [ByteArray.size_append, ByteArray.size_extract] at h_; exact eq_false (by first | omega | (omega))))
        (try (have c83s1 : (9223372036854775807 < (t472.size + t473.size + t474.size) + t475.size) = False := by have h_ := c83; simp only [ByteArray.size_append, ByteArray.size_extract] at h_; exact eq_false (by first | omega | (omega))))
        (try (have c83s2 : ((t472.size + t473.size + t474.size) + t475.size ≤ 9223372036854775807) = True := by have h_ := c83; simp only [ByteArray.size_append, Int.natCast_add, Int.toNat_natCast] at h_; first | exact eq_true h_ | exact eq_true (by omega)))
        (try (have c83s3 : decide ((t472.size + t473.size + t474.size) + t475.size ≤ 9223372036854775807) = true := by have h_ := c83; first | (simp only [ByteArray.size_append, Int.toNat_natCast] at h_; first | exact beq_iff_eq.mpr h_ | exact beq_eq_false_iff_ne.mpr h_ | exact bne_iff_ne.mpr h_ | exact bne_eq_false_iff_eq.mpr h_ | (rw [beq_iff_eq.mpr h_]; rfl) | (rw [beq_eq_false_iff_ne.mpr h_]; rfl)) | (simp only [ByteArray.size_append, Int.natCast_add, Int.toNat_natCast] at h_ ⊢; first | exact h_ | simpa using h_ | simp [h_] | omega) | (simp only [ByteArray.size_append] at h_; simp at h_ ⊢; omega) | (simp only [ByteArray.size_append, Int.natCast_add, Int.toNat_natCast] at h_; simpa using h_)))
        try have c83b2 : (9223372036854775807 < ((t472 ++ t473) ++ t474).size + t475.size) = False := eq_false (Nat.not_lt.2 c83)
        replace H := Option.bind_eq_some_iff.mp H
        obtain ⟨t476, A840, H⟩ := H
        replace H : (if (((t472 ++ t473) ++ t474) ++ t475).size + t476.size ≤ 9223372036854775807 then ((intrusionref06_Bytes.f k3 d7 d8 d9).bind fun t477 => (if ((((t472 ++ t473) ++ t474) ++ t475) ++ t476).size + t477.size ≤ 9223372036854775807 then (if (((((t472 ++ t473) ++ t474) ++ t475) ++ t476) ++ t477).size + x7_3.size ≤ 9223372036854775807 then (some ((((((t472 ++ t473) ++ t474) ++ t475) ++ t476) ++ t477) ++ x7_3, 0)) else (none)) else (none))) else (none)) = some (r1, r2) := H
        have A84 := As A840
        clear A840
        by_cases c85 : (((t472 ++ t473) ++ t474) ++ t475).size + t476.size ≤ 9223372036854775807
        ·rw [if_pos c85] at H
         have c85b0 := eq_true c85
         have c85b1 : decide ((((t472 ++ t473) ++ t474) ++ t475).size + t476.size ≤ 9223372036854775807) = true := decide_eq_true c85
         (try (have c85s0 : (9223372036854775807 < (t472.size + t473.size + t474.size + t475.size) + t476.size) = False := by have h_ := c85; simp only [ByteArray.size_append, ByteArray.size_extract] at h_; exact eq_false (by first | omega | (omega))))
         (try (have c85s1 : (9223372036854775807 < t472.size + t473.size + t474.size + t475.size + t476.size) = False := by have h_ := c85; simp only [ByteArray.size_append, ByteArray.size_extract] at h_; exact eq_false (by first | omega | (omega))))
         (try (have c85s2 : ((t472.size + t473.size + t474.size + t475.size) + t476.size ≤ 9223372036854775807) = True := by have h_ := c85; simp only [ByteArray.size_append, Int.natCast_add, Int.toNat_natCast] at h_; first | exact eq_true h_ | exact eq_true (by omega)))
         (try (have c85s3 : decide ((t472.size + t473.size + t474.size + t475.size) + t476.size ≤ 9223372036854775807) = true := by have h_ := c85; first | (simp only [ByteArray.size_append, Int.toNat_natCast] at h_; first | exact beq_iff_eq.mpr h_ | exact beq_eq_false_iff_ne.mpr h_ | exact bne_iff_ne.mpr h_ | exact bne_eq_false_iff_eq.mpr h_ | (rw [beq_iff_eq.mpr h_]; rfl) | (rw [beq_eq_false_iff_ne.mpr h_]; rfl)) | (simp only [ByteArray.size_append, Int.natCast_add, Int.toNat_natCast] at h_ ⊢; first | exact h_ | simpa using h_ | simp [h_] | omega) | (simp only [ByteArray.size_append] at h_; simp at h_ ⊢; omega) | (simp only [ByteArray.size_append, Int.natCast_add, Int.toNat_natCast] at h_; simpa using h_)))
         try have c85b2 : (9223372036854775807 < (((t472 ++ t473) ++ t474) ++ t475).size + t476.size) = False := eq_false (Nat.not_lt.2 c85)
         replace H := Option.bind_eq_some_iff.mp H
         obtain ⟨t477, A860, H⟩ := H
         replace H : (if ((((t472 ++ t473) ++ t474) ++ t475) ++ t476).size + t477.size ≤ 9223372036854775807 then (if (((((t472 ++ t473) ++ t474) ++ t475) ++ t476) ++ t477).size + x7_3.size ≤ 9223372036854775807 then (some ((((((t472 ++ t473) ++ t474) ++ t475) ++ t476) ++ t477) ++ x7_3, 0)) else (none)) else (none)) = some (r1, r2) := H
         have A86 := As A860
         clear A860
         by_cases c87 : ((((t472 ++ t473) ++ t474) ++ t475) ++ t476).size + t477.size ≤ 9223372036854775807
         ·rw [if_pos c87] at H
          have c87b0 := eq_true c87
          have c87b1 : decide (((((t472 ++ t473) ++ t474) ++ t475) ++ t476).size + t477.size ≤ 9223372036854775807) = true := decide_eq_true c87
          (try (have c87s0 : (9223372036854775807 < (t472.size + t473.size + t474.size + t475.size + t476.size) + t477.size) = False := by have h_ := c87; simp only [ByteArray.size_append, ByteArray.size_extract] at h_; exact eq_false (by first | omega | (omega))))
          (try (have c87s1 : (9223372036854775807 < t472.size + t473.size + t474.size + t475.size + t476.size + t477.size) = False := by have h_ := c87; simp only [ByteArray.size_append, ByteArray.size_extract] at h_; exact eq_false (by first | omega | (omega))))
          (try (have c87s2 : ((t472.size + t473.size + t474.size + t475.size + t476.size) + t477.size ≤ 9223372036854775807) = True := by have h_ := c87; simp only [ByteArray.size_append, Int.natCast_add, Int.toNat_natCast] at h_; first | exact eq_true h_ | exact eq_true (by omega)))
          (try (have c87s3 : decide ((t472.size + t473.size + t474.size + t475.size + t476.size) + t477.size ≤ 9223372036854775807) = true := by have h_ := c87; first | (simp only [ByteArray.size_append, Int.toNat_natCast] at h_; first | exact beq_iff_eq.mpr h_ | exact beq_eq_false_iff_ne.mpr h_ | exact bne_iff_ne.mpr h_ | exact bne_eq_false_iff_eq.mpr h_ | (rw [beq_iff_eq.mpr h_]; rfl) | (rw [beq_eq_false_iff_ne.mpr h_]; rfl)) | (simp only [ByteArray.size_append, Int.natCast_add, Int.toNat_natCast] at h_ ⊢; first | exact h_ | simpa using h_ | simp [h_] | omega) | (simp only [ByteArray.size_append] at h_; simp at h_ ⊢; omega) | (simp only [ByteArray.size_append, Int.natCast_add, Int.toNat_natCast] at h_; simpa using h_)))
          try have c87b2 : (9223372036854775807 < ((((t472 ++ t473) ++ t474) ++ t475) ++ t476).size + t477.size) = False := eq_false (Nat.not_lt.2 c87)
          by_cases c88 : (((((t472 ++ t473) ++ t474) ++ t475) ++ t476) ++ t477).size + x7_3.size ≤ 9223372036854775807
          ·rw [if_pos c88] at H
           have c88b0 := eq_true c88
           have c88b1 : decide ((((((t472 ++ t473) ++ t474) ++ t475) ++ t476) ++ t477).size + x7_3.size ≤ 9223372036854775807) = true := decide_eq_true c88
           (try (have c88s0 : (9223372036854775807 < (t472.size + t473.size + t474.size + t475.size + t476.size + t477.size) + x7_3.size) = False := by have h_ := c88; simp only [ByteArray.size_append, ByteArray.size_extract] at h_; exact eq_false (by first | omega | (omega))))
           (try (have c88s1 : (9223372036854775807 < t472.size + t473.size + t474.size + t475.size + t476.size + t477.size + x7_3.size) = False := by have h_ := c88; simp only [ByteArray.size_append, ByteArray.size_extract] at h_; exact eq_false (by first | omega | (omega))))
           (try (have c88s2 : ((t472.size + t473.size + t474.size + t475.size + t476.size + t477.size) + x7_3.size ≤ 9223372036854775807) = True := by have h_ := c88; simp only [ByteArray.size_append, Int.natCast_add, Int.toNat_natCast] at h_; first | exact eq_true h_ | exact eq_true (by omega)))
           (try (have c88s3 : decide ((t472.size + t473.size + t474.size + t475.size + t476.size + t477.size) + x7_3.size ≤ 9223372036854775807) = true := by have h_ := c88; first | (simp only [ByteArray.size_append, Int.toNat_natCast] at h_; first | exact beq_iff_eq.mpr h_ | exact beq_eq_false_iff_ne.mpr h_ | exact bne_iff_ne.mpr h_ | exact bne_eq_false_iff_eq.mpr h_ | (rw [beq_iff_eq.mpr h_]; rfl) | (rw [beq_eq_false_iff_ne.mpr h_]; rfl)) | (simp only [ByteArray.size_append, Int.natCast_add, Int.toNat_natCast] at h_ ⊢; first | exact h_ | simpa using h_ | simp [h_] | omega) | (simp only [ByteArray.size_append] at h_; simp at h_ ⊢; omega) | (simp only [ByteArray.size_append, Int.natCast_add, Int.toNat_natCast] at h_; simpa using h_)))
           try have c88b2 : (9223372036854775807 < (((((t472 ++ t473) ++ t474) ++ t475) ++ t476) ++ t477).size + x7_3.size) = False := eq_false (Nat.not_lt.2 c88)
           simp only [Option.some.injEq, Prod.mk.injEq] at H
           obtain ⟨rfl, rfl⟩ := H
           try go_wp2
           replace BK459 := As (blk_drew BK459.out)
           replace HB := As (below_drew1 HB.out)
           refine start_ (n := 31) (S := fun w' => w'.cell? ⟨gb459, 0, none⟩ = some (.int .i64 d0) ∧ w'.cell? ⟨gb459, 1, none⟩ = some (.int .i64 d1) ∧ w'.cell? ⟨gb459, 2, none⟩ = some (.int .i64 d2) ∧ w'.cell? ⟨gb459, 3, none⟩ = some (.int .i64 d3) ∧ w'.cell? ⟨gb459, 4, none⟩ = some (.bool d4) ∧ w'.cell? ⟨gb459, 5, none⟩ = some (.int .u64 d5) ∧ w'.cell? ⟨gb459, 6, none⟩ = some (.int .u64 d6) ∧ w'.cell? ⟨gb459, 7, none⟩ = some (.bool d7) ∧ w'.cell? ⟨gb459, 8, none⟩ = some (.int .u64 d8) ∧ w'.cell? ⟨gb459, 9, none⟩ = some (.int .u64 d9) ∧ w'.cell? ⟨gb459, 10, none⟩ = some (.slice A0_10 l0_10.length c0_10) ∧ w'.cell? ⟨gb459, 11, none⟩ = some (.bool d11) ∧ w'.cell? ⟨gb459, 12, none⟩ = some (.int .i64 d12) ∧ w'.cell? ⟨gb459, 13, none⟩ = some (.int .i64 d13) ∧ w'.cell? ⟨gb459, 14, none⟩ = some (.bool d14) ∧ w'.cell? ⟨gb459, 15, none⟩ = some (.string d15)) (ds := []) #[false, false, false, false, false, false, false, false, false, false, false, false, false, false, false, false, false, false, false, false, false, false, false, false, false, false, false, false, false, false, false] (by kernel_rfl) rfl rfl ⟨(blk_cell BK459.out 0).trans rfl, (blk_cell BK459.out 1).trans rfl, (blk_cell BK459.out 2).trans rfl, (blk_cell BK459.out 3).trans rfl, (blk_cell BK459.out 4).trans rfl, (blk_cell BK459.out 5).trans rfl, (blk_cell BK459.out 6).trans rfl, (blk_cell BK459.out 7).trans rfl, (blk_cell BK459.out 8).trans rfl, (blk_cell BK459.out 9).trans rfl, (blk_cell BK459.out 10).trans rfl, (blk_cell BK459.out 11).trans rfl, (blk_cell BK459.out 12).trans rfl, (blk_cell BK459.out 13).trans rfl, (blk_cell BK459.out 14).trans rfl, (blk_cell BK459.out 15).trans rfl⟩ (fun hHeld => ?_); refine with_tabW intrusionref12_Encode.tab29 intrusionref12_Encode.bits29 (fun HT_ HW_ => ?_)
           generalize wr.drew = w89 at BK459 HB hHeld ⊢
           refine kP 0 115 #[true, false, false, false, false, false, false, false, false, false, false, false, false, false, false, false, false, false, false, false, false, false, false, false, false, false, false, false, false, false, false] ?_ (any_of HT_.out (by kernel_rfl))
           refine kP 4 119 #[true, false, false, false, true, false, false, false, false, false, false, false, false, false, false, false, false, false, false, false, false, false, false, false, false, false, false, false, false, false, false] ?_ (any_of HT_.out (by kernel_rfl))
           refine kP 8 123 #[true, false, false, false, true, false, false, false, true, false, false, false, false, false, false, false, false, false, false, false, false, false, false, false, false, false, false, false, false, false, false] ?_ (any_of HT_.out (by kernel_rfl))
           refine kP 9 124 #[true, false, false, false, true, false, false, false, true, true, false, false, false, false, false, false, false, false, false, false, false, false, false, false, false, false, false, false, false, false, false] ?_ (any_of HT_.out (by kernel_rfl))
           refine kP 12 127 #[true, false, false, false, true, false, false, false, true, true, false, false, true, false, false, false, false, false, false, false, false, false, false, false, false, false, false, false, false, false, false] ?_ (any_of HT_.out (by kernel_rfl))
           refine kP 15 130 #[true, false, false, false, true, false, false, false, true, true, false, false, true, false, false, true, false, false, false, false, false, false, false, false, false, false, false, false, false, false, false] ?_ (any_of HT_.out (by kernel_rfl))
           refine kP 19 134 #[true, false, false, false, true, false, false, false, true, true, false, false, true, false, false, true, false, false, false, true, false, false, false, false, false, false, false, false, false, false, false] ?_ (any_of HT_.out (by kernel_rfl))
           refine kP 23 138 #[true, false, false, false, true, false, false, false, true, true, false, false, true, false, false, true, false, false, false, true, false, false, false, true, false, false, false, false, false, false, false] ?_ (any_of HT_.out (by kernel_rfl))
           refine kP 27 142 #[true, false, false, false, true, false, false, false, true, true, false, false, true, false, false, true, false, false, false, true, false, false, false, true, false, false, false, true, false, false, false] ?_ (any_of HT_.out (by kernel_rfl))
           refine take_ (i := 1) (N := some 116) (v := ?_) (a' := ?_) #[true, true, false, false, true, false, false, false, true, true, false, false, true, false, false, true, false, false, false, true, false, false, false, true, false, false, false, true, false, false, false] rfl rfl (take_ofW HT_.out HW_.out (by kernel_rfl)) (fun _ _ _ h => h) (Or.inl ⟨by rfl, ?_⟩) hHeld ?_ ?_
           rotate_left
           ·rintro w' ⟨s0, s1, s2, s3, s4, s5, s6, s7, s8, s9, s10, s11, s12, s13, s14, s15⟩
            go_simp
            with_reducible rfl
           rotate_left
           ·simp only [Act.put, sA, sZ, sS, i64_w, i32_w]
            rfl
           refine kP 2 117 #[true, true, true, false, true, false, false, false, true, true, false, false, true, false, false, true, false, false, false, true, false, false, false, true, false, false, false, true, false, false, false] ?_ (any_of HT_.out (by kernel_rfl))
           refine kP 3 118 #[true, true, true, true, true, false, false, false, true, true, false, false, true, false, false, true, false, false, false, true, false, false, false, true, false, false, false, true, false, false, false] ?_ (any_of HT_.out (by kernel_rfl))
           refine take_ (i := 5) (N := some 120) (v := ?_) (a' := ?_) #[true, true, true, true, true, true, false, false, true, true, false, false, true, false, false, true, false, false, false, true, false, false, false, true, false, false, false, true, false, false, false] rfl rfl (take_ofW HT_.out HW_.out (by kernel_rfl)) (fun _ _ _ h => h) (Or.inl ⟨by rfl, ?_⟩) hHeld ?_ ?_
           rotate_left
           ·rintro w' ⟨s0, s1, s2, s3, s4, s5, s6, s7, s8, s9, s10, s11, s12, s13, s14, s15⟩
            go_simp
            with_reducible rfl
           rotate_left
           ·simp only [Act.put, sA, sZ, sS, i64_w, i32_w]
            rfl
           refine kP 6 121 #[true, true, true, true, true, true, true, false, true, true, false, false, true, false, false, true, false, false, false, true, false, false, false, true, false, false, false, true, false, false, false] ?_ (any_of HT_.out (by kernel_rfl))
           refine take_ (i := 16) (N := some 131) (v := ?_) (a' := ?_) #[true, true, true, true, true, true, true, false, true, true, false, false, true, false, false, true, true, false, false, true, false, false, false, true, false, false, false, true, false, false, false] rfl rfl (take_ofW HT_.out HW_.out (by kernel_rfl)) (fun _ _ _ h => h) (Or.inl ⟨by rfl, ?_⟩) hHeld ?_ ?_
           rotate_left
           ·rintro w' ⟨s0, s1, s2, s3, s4, s5, s6, s7, s8, s9, s10, s11, s12, s13, s14, s15⟩
            go_simp
            with_reducible rfl
           rotate_left
           ·simp only [Act.put, sA, sZ, sS, i64_w, i32_w]
            rfl
           refine take_ (i := 20) (N := some 135) (v := ?_) (a' := ?_) #[true, true, true, true, true, true, true, false, true, true, false, false, true, false, false, true, true, false, false, true, true, false, false, true, false, false, false, true, false, false, false] rfl rfl (take_ofW HT_.out HW_.out (by kernel_rfl)) (fun _ _ _ h => h) (Or.inl ⟨by rfl, ?_⟩) hHeld ?_ ?_
           rotate_left
           ·rintro w' ⟨s0, s1, s2, s3, s4, s5, s6, s7, s8, s9, s10, s11, s12, s13, s14, s15⟩
            go_simp
            with_reducible rfl
           rotate_left
           ·simp only [Act.put, sA, sZ, sS, i64_w, i32_w]
            rfl
           refine take_ (i := 24) (N := some 139) (v := ?_) (a' := ?_) #[true, true, true, true, true, true, true, false, true, true, false, false, true, false, false, true, true, false, false, true, true, false, false, true, true, false, false, true, false, false, false] rfl rfl (take_ofW HT_.out HW_.out (by kernel_rfl)) (fun _ _ _ h => h) (Or.inl ⟨by rfl, ?_⟩) hHeld ?_ ?_
           rotate_left
           ·rintro w' ⟨s0, s1, s2, s3, s4, s5, s6, s7, s8, s9, s10, s11, s12, s13, s14, s15⟩
            go_simp
            with_reducible rfl
           rotate_left
           ·simp only [Act.put, sA, sZ, sS, i64_w, i32_w]
            rfl
           refine one_ (i := 7) (N := some 122) #[true, true, true, true, true, true, true, true, true, true, false, false, true, false, false, true, true, false, false, true, true, false, false, true, true, false, false, true, false, false, false] rfl rfl (one_of HT_.out (by kernel_rfl)) (by decide) (fun K hK => ?_)
           refine goes_ Try.func38 (by kernel_rfl) rfl #[.int .i64 (Go.bits .or .i64 (Go.bits .or .i64 1610612736 (wrap64 (d0 * 1048576))) d1), .int .i64 4] (by rfl) rfl rfl kA ?_
           with_reducible refine (intrusionref12_put.calls k3 (Go.bits .or .i64 (Go.bits .or .i64 1610612736 (wrap64 (d0 * 1048576))) d1) 4 t472 _ A77.out).mono ?_
           rintro e w90 ⟨rfl, hb⟩
           refine ⟨_, rfl, ?_⟩
           replace BK459 := As (blk_below (kb BK459.out) hb)
           replace HB := As (below_step (kB1 HB.out GE459.out) hb)
           (try clear hb)
           (try clear hb2)
           (try clear hk)
           (try clear hi)
           refine hK.out _ _ ⟨(blk_cell BK459.out 0).trans rfl, (blk_cell BK459.out 1).trans rfl, (blk_cell BK459.out 2).trans rfl, (blk_cell BK459.out 3).trans rfl, (blk_cell BK459.out 4).trans rfl, (blk_cell BK459.out 5).trans rfl, (blk_cell BK459.out 6).trans rfl, (blk_cell BK459.out 7).trans rfl, (blk_cell BK459.out 8).trans rfl, (blk_cell BK459.out 9).trans rfl, (blk_cell BK459.out 10).trans rfl, (blk_cell BK459.out 11).trans rfl, (blk_cell BK459.out 12).trans rfl, (blk_cell BK459.out 13).trans rfl, (blk_cell BK459.out 14).trans rfl, (blk_cell BK459.out 15).trans rfl⟩ (fun hHeld => ?_)
           clear hK K
           refine norm_ (a' := ?_) ?_ ?_
           rotate_left
           ·show Act.put _ (some 122) _ = _
            simp only [Act.put, sA, sZ, sS, i64_w, i32_w]
            rfl
           refine one_ (i := 10) (N := some 125) #[true, true, true, true, true, true, true, true, true, true, true, false, true, false, false, true, true, false, false, true, true, false, false, true, true, false, false, true, false, false, false] rfl rfl (one_of HT_.out (by kernel_rfl)) (by decide) (fun K hK => ?_)
           refine goes_ Try.func38 (by kernel_rfl) rfl #[.int .i64 (x7_3.size : Int), .int .i64 2] (by rfl) rfl rfl kA ?_
           with_reducible refine (intrusionref12_put.calls k3 (x7_3.size : Int) 2 t473 _ A78.out).mono ?_
           rintro e w91 ⟨rfl, hb⟩
           refine ⟨_, rfl, ?_⟩
           replace BK459 := As (blk_below (kb BK459.out) hb)
           replace HB := As (below_step (kB1 HB.out GE459.out) hb)
           (try clear hb)
           (try clear hb2)
           (try clear hk)
           (try clear hi)
           refine hK.out _ _ ⟨(blk_cell BK459.out 0).trans rfl, (blk_cell BK459.out 1).trans rfl, (blk_cell BK459.out 2).trans rfl, (blk_cell BK459.out 3).trans rfl, (blk_cell BK459.out 4).trans rfl, (blk_cell BK459.out 5).trans rfl, (blk_cell BK459.out 6).trans rfl, (blk_cell BK459.out 7).trans rfl, (blk_cell BK459.out 8).trans rfl, (blk_cell BK459.out 9).trans rfl, (blk_cell BK459.out 10).trans rfl, (blk_cell BK459.out 11).trans rfl, (blk_cell BK459.out 12).trans rfl, (blk_cell BK459.out 13).trans rfl, (blk_cell BK459.out 14).trans rfl, (blk_cell BK459.out 15).trans rfl⟩ (fun hHeld => ?_)
           clear hK K
           refine norm_ (a' := ?_) ?_ ?_
           rotate_left
           ·show Act.put _ (some 125) _ = _
            simp only [Act.put, sA, sZ, sS, i64_w, i32_w]
            rfl
           refine kP 11 126 #[true, true, true, true, true, true, true, true, true, true, true, true, true, false, false, true, true, false, false, true, true, false, false, true, true, false, false, true, false, false, false] ?_ (any_of HT_.out (by kernel_rfl))
           refine one_ (i := 13) (N := some 128) #[true, true, true, true, true, true, true, true, true, true, true, true, true, true, false, true, true, false, false, true, true, false, false, true, true, false, false, true, false, false, false] rfl rfl (one_of HT_.out (by kernel_rfl)) (by decide) (fun K hK => ?_)
           refine goes_ Try.func38 (by kernel_rfl) rfl #[.int .i64 x6_3, .int .i64 1] (by rfl) rfl rfl kA ?_
           with_reducible refine (intrusionref12_put.calls k3 x6_3 1 t474 _ A80.out).mono ?_
           rintro e w92 ⟨rfl, hb⟩
           refine ⟨_, rfl, ?_⟩
           replace BK459 := As (blk_below (kb BK459.out) hb)
           replace HB := As (below_step (kB1 HB.out GE459.out) hb)
           (try clear hb)
           (try clear hb2)
           (try clear hk)
           (try clear hi)
           refine hK.out _ _ ⟨(blk_cell BK459.out 0).trans rfl, (blk_cell BK459.out 1).trans rfl, (blk_cell BK459.out 2).trans rfl, (blk_cell BK459.out 3).trans rfl, (blk_cell BK459.out 4).trans rfl, (blk_cell BK459.out 5).trans rfl, (blk_cell BK459.out 6).trans rfl, (blk_cell BK459.out 7).trans rfl, (blk_cell BK459.out 8).trans rfl, (blk_cell BK459.out 9).trans rfl, (blk_cell BK459.out 10).trans rfl, (blk_cell BK459.out 11).trans rfl, (blk_cell BK459.out 12).trans rfl, (blk_cell BK459.out 13).trans rfl, (blk_cell BK459.out 14).trans rfl, (blk_cell BK459.out 15).trans rfl⟩ (fun hHeld => ?_)
           clear hK K
           refine norm_ (a' := ?_) ?_ ?_
           rotate_left
           ·show Act.put _ (some 128) _ = _
            simp only [Act.put, sA, sZ, sS, i64_w, i32_w]
            rfl
           refine kP 14 129 #[true, true, true, true, true, true, true, true, true, true, true, true, true, true, true, true, true, false, false, true, true, false, false, true, true, false, false, true, false, false, false] ?_ (any_of HT_.out (by kernel_rfl))
           refine one_ (i := 17) (N := some 132) #[true, true, true, true, true, true, true, true, true, true, true, true, true, true, true, true, true, true, false, true, true, false, false, true, true, false, false, true, false, false, false] rfl rfl (one_of HT_.out (by kernel_rfl)) (by decide) (fun K hK => ?_)
           refine goes_ Try.func38 (by kernel_rfl) rfl #[.int .i64 d2, .int .i64 1] (by rfl) rfl rfl kA ?_
           with_reducible refine (intrusionref12_put.calls k3 d2 1 t475 _ A82.out).mono ?_
           rintro e w93 ⟨rfl, hb⟩
           refine ⟨_, rfl, ?_⟩
           replace BK459 := As (blk_below (kb BK459.out) hb)
           replace HB := As (below_step (kB1 HB.out GE459.out) hb)
           (try clear hb)
           (try clear hb2)
           (try clear hk)
           (try clear hi)
           refine hK.out _ _ ⟨(blk_cell BK459.out 0).trans rfl, (blk_cell BK459.out 1).trans rfl, (blk_cell BK459.out 2).trans rfl, (blk_cell BK459.out 3).trans rfl, (blk_cell BK459.out 4).trans rfl, (blk_cell BK459.out 5).trans rfl, (blk_cell BK459.out 6).trans rfl, (blk_cell BK459.out 7).trans rfl, (blk_cell BK459.out 8).trans rfl, (blk_cell BK459.out 9).trans rfl, (blk_cell BK459.out 10).trans rfl, (blk_cell BK459.out 11).trans rfl, (blk_cell BK459.out 12).trans rfl, (blk_cell BK459.out 13).trans rfl, (blk_cell BK459.out 14).trans rfl, (blk_cell BK459.out 15).trans rfl⟩ (fun hHeld => ?_)
           clear hK K
           refine norm_ (a' := ?_) ?_ ?_
           rotate_left
           ·show Act.put _ (some 132) _ = _
            simp only [Act.put, sA, sZ, sS, i64_w, i32_w]
            rfl
           refine kP 18 133 #[true, true, true, true, true, true, true, true, true, true, true, true, true, true, true, true, true, true, true, true, true, false, false, true, true, false, false, true, false, false, false] ?_ (any_of HT_.out (by kernel_rfl))
           refine one_ (i := 21) (N := some 136) #[true, true, true, true, true, true, true, true, true, true, true, true, true, true, true, true, true, true, true, true, true, true, false, true, true, false, false, true, false, false, false] rfl rfl (one_of HT_.out (by kernel_rfl)) (by decide) (fun K hK => ?_)
           refine goes_ Try.func39 (by kernel_rfl) rfl #[.agg #[.bool d4, .int .u64 d5, .int .u64 d6]] (by rfl) rfl rfl kA ?_
           with_reducible refine (intrusionref06_Bytes.calls k3 d4 d5 d6 t476 _ A84.out).mono ?_
           rintro e w94 ⟨rfl, hb⟩
           refine ⟨_, rfl, ?_⟩
           replace BK459 := As (blk_below (kb BK459.out) hb)
           replace HB := As (below_step (kB1 HB.out GE459.out) hb)
           (try clear hb)
           (try clear hb2)
           (try clear hk)
           (try clear hi)
           refine hK.out _ _ ⟨(blk_cell BK459.out 0).trans rfl, (blk_cell BK459.out 1).trans rfl, (blk_cell BK459.out 2).trans rfl, (blk_cell BK459.out 3).trans rfl, (blk_cell BK459.out 4).trans rfl, (blk_cell BK459.out 5).trans rfl, (blk_cell BK459.out 6).trans rfl, (blk_cell BK459.out 7).trans rfl, (blk_cell BK459.out 8).trans rfl, (blk_cell BK459.out 9).trans rfl, (blk_cell BK459.out 10).trans rfl, (blk_cell BK459.out 11).trans rfl, (blk_cell BK459.out 12).trans rfl, (blk_cell BK459.out 13).trans rfl, (blk_cell BK459.out 14).trans rfl, (blk_cell BK459.out 15).trans rfl⟩ (fun hHeld => ?_)
           clear hK K
           refine norm_ (a' := ?_) ?_ ?_
           rotate_left
           ·show Act.put _ (some 136) _ = _
            simp only [Act.put, sA, sZ, sS, i64_w, i32_w]
            rfl
           refine kP 22 137 #[true, true, true, true, true, true, true, true, true, true, true, true, true, true, true, true, true, true, true, true, true, true, true, true, true, false, false, true, false, false, false] ?_ (any_of HT_.out (by kernel_rfl))
           refine one_ (i := 25) (N := some 140) #[true, true, true, true, true, true, true, true, true, true, true, true, true, true, true, true, true, true, true, true, true, true, true, true, true, true, false, true, false, false, false] rfl rfl (one_of HT_.out (by kernel_rfl)) (by decide) (fun K hK => ?_)
           refine goes_ Try.func39 (by kernel_rfl) rfl #[.agg #[.bool d7, .int .u64 d8, .int .u64 d9]] (by rfl) rfl rfl kA ?_
           with_reducible refine (intrusionref06_Bytes.calls k3 d7 d8 d9 t477 _ A86.out).mono ?_
           rintro e w95 ⟨rfl, hb⟩
           refine ⟨_, rfl, ?_⟩
           replace BK459 := As (blk_below (kb BK459.out) hb)
           replace HB := As (below_step (kB1 HB.out GE459.out) hb)
           (try clear hb)
           (try clear hb2)
           (try clear hk)
           (try clear hi)
           refine hK.out _ _ ⟨(blk_cell BK459.out 0).trans rfl, (blk_cell BK459.out 1).trans rfl, (blk_cell BK459.out 2).trans rfl, (blk_cell BK459.out 3).trans rfl, (blk_cell BK459.out 4).trans rfl, (blk_cell BK459.out 5).trans rfl, (blk_cell BK459.out 6).trans rfl, (blk_cell BK459.out 7).trans rfl, (blk_cell BK459.out 8).trans rfl, (blk_cell BK459.out 9).trans rfl, (blk_cell BK459.out 10).trans rfl, (blk_cell BK459.out 11).trans rfl, (blk_cell BK459.out 12).trans rfl, (blk_cell BK459.out 13).trans rfl, (blk_cell BK459.out 14).trans rfl, (blk_cell BK459.out 15).trans rfl⟩ (fun hHeld => ?_)
           clear hK K
           refine norm_ (a' := ?_) ?_ ?_
           rotate_left
           ·show Act.put _ (some 140) _ = _
            simp only [Act.put, sA, sZ, sS, i64_w, i32_w]
            rfl
           refine kP 26 141 #[true, true, true, true, true, true, true, true, true, true, true, true, true, true, true, true, true, true, true, true, true, true, true, true, true, true, true, true, false, false, false] ?_ (any_of HT_.out (by kernel_rfl))
           refine kP 28 143 #[true, true, true, true, true, true, true, true, true, true, true, true, true, true, true, true, true, true, true, true, true, true, true, true, true, true, true, true, true, false, false] ?_ (any_of HT_.out (by kernel_rfl))
           refine kP 29 2 #[true, true, true, true, true, true, true, true, true, true, true, true, true, true, true, true, true, true, true, true, true, true, true, true, true, true, true, true, true, true, false] ?_ (any_of HT_.out (by kernel_rfl))
           refine kP 30 3 #[true, true, true, true, true, true, true, true, true, true, true, true, true, true, true, true, true, true, true, true, true, true, true, true, true, true, true, true, true, true, true] ?_ (any_of HT_.out (by kernel_rfl))
           refine done_ (done_of HT_.out (by kernel_rfl)) ?_
           try go_wp2
           go_ret2
           exact ⟨kE, by exact kB1 HB.out GE459.out⟩
          rw [if_neg c88] at H
          exact absurd H (by simp)
         rw [if_neg c87] at H
         exact absurd H (by simp)
        rw [if_neg c85] at H
        exact absurd H (by simp)
       rw [if_neg c83] at H
       exact absurd H (by simp)
      rw [if_neg c81] at H
      exact absurd H (by simp)
     rw [if_neg c79] at H
     exact absurd H (by simp)
 replace c3 := Bool.eq_false_iff.mpr c3
 subst c3
 have H1 : (some ((⟨#[]⟩ : ByteArray), 4)) = some (r1, r2) := by rw [if_neg (show ¬ (false = true) by decide)] at H; exact H
 clear H
 have H := H1
 clear H1
 simp only [Option.some.injEq, Prod.mk.injEq] at H
 obtain ⟨rfl, rfl⟩ := H
 go_enter Try.func16, Try.ntmps16
 go_wp2_with (first | ((with_reducible refine gate_dst (N := 1) rfl ?_); (try (refine gate_guard (by rfl) ?_; dsimp only)); refine box_event rfl (N := 1) rfl (cs := #[.int .i64 d0, .int .i64 d1, .int .i64 d2, .int .i64 d3, .bool d4, .int .u64 d5, .int .u64 d6, .bool d7, .int .u64 d8, .int .u64 d9, .slice A0_10 l0_10.length c0_10, .bool d11, .int .i64 d12, .int .i64 d13, .bool d14, .string d15]) (t := 28) kG ?_; intro gb459 hg w96 hbox hb; have BK459 := As (hbox); have GW459 := As ((by rw [hg]; exact (below_size (kB HB.out)) : w.heap.size ≤ gb459)); have GE459 := As ((by rw [hg]; exact (below_size (kB HB.out)) : w.heap.size ≤ gb459)); replace HB := As (below_step (kB HB.out) hb); clear hb hbox hg) | ((with_reducible refine gate_dst (N := 11) rfl ?_); (try (refine gate_guard (by rfl) ?_; dsimp only)); refine wpList_load_row rfl 28 _ rfl gb459 rfl 28 _ (0, 0) _ (kb BK459.out) Try.underlying28 rfl (by kernel_rfl) ?_) | ((with_reducible refine gate_callee (f := 37) rfl ?_); refine goesL_ (some 12) rfl rfl Try.func37 (by kernel_rfl) rfl #[.agg #[.int .i64 d0, .int .i64 d1, .int .i64 d2, .int .i64 d3, .bool d4, .int .u64 d5, .int .u64 d6, .bool d7, .int .u64 d8, .int .u64 d9, .slice A0_10 l0_10.length c0_10, .bool d11, .int .i64 d12, .int .i64 d13, .bool d14, .string d15]] rfl kA ?_; (with_reducible refine (intrusionref12_ranges.calls k d0 d1 d2 d3 d4 d5 d6 d7 d8 d9 _ _ l0_10 d11 d12 d13 d14 d15 false _ ?side1 ?side2 A2.out).mono ?_); (case side1 => repeat (first | exact (Kd.C_below HR0_10.out HB.out) | (with_reducible refine Kd.C_alloc ?_ _) | (with_reducible refine Kd.C_drewN ?_ _) | (with_reducible refine Kd.C_drew ?_))); (case side2 => exact HC0_10.out); rintro e w97 ⟨rfl, hb⟩; refine ⟨_, rfl, ?_⟩; replace BK459 := As (blk_below (kb BK459.out) hb); replace HB := As (below_step (kB1 HB.out GE459.out) hb); (try clear hb)))
 go_ret2
 exact ⟨kE, by exact kB1 HB.out GE459.out⟩

end Go.Proofs.Ytljboandbjahdaa.X
-- short
