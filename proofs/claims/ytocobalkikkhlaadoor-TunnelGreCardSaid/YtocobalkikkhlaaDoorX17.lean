/- Functions and their walks, printed by xprint.py. -/
import Derived.Test.YtocobalkikkhlaaDoorX0
import Derived.Test.YtocobalkikkhlaaDoorX16
namespace Go.Proofs.YtocobalkikkhlaaDoor.X
open Go.RowKit Go.Proofs.YtocobalkikkhlaaDoorW.PrintWords Go.Proofs.YtocobalkikkhlaaDoorW.PrintLast Go.Proofs.YtocobalkikkhlaaDoorW.PrintMore
attribute [local go_sem] max2_int min2_int max_two min_two max_three min_three max_four min_four   -- for this text's walks alone
set_option linter.unusedVariables false
set_option linter.unusedSimpArgs false

/-! ### intrusionref12_Encode: function 37 -/
mutual
def intrusionref12_Encode.l0 : Nat → Int → Int → Int → Int → Int → Bool → Int → Int → Bool → Int → Int → List (S91) → Bool → Int → Int → Bool → ByteArray → Option (ByteArray × Int)
 | 0, _, _, _, _, _, _, _, _, _, _, _, _, _, _, _, _, _ => none
 | k + 1, x4, b0, b1, b2, b3, b4, b5, b6, b7, b8, b9, b10, b11, b12, b13, b14, b15 => if x4 < (b10.length : Int) then (if 0 ≤ x4 then ((intrusionref12_extension.f ((rd_T91 b10 x4).f0)).bind fun t412 => (if t412 = true then (if ((rd_T91 b10 x4).f0) = 0 then (if x4 > 0 then (some ((⟨#[]⟩ : ByteArray), 2)) else (if ((((rd_T91 b10 x4).f1).size : Int) % 8) = 6 then (if (((rd_T91 b10 x4).f1).size : Int) > 2046 then (some ((⟨#[]⟩ : ByteArray), 2)) else (intrusionref12_Encode.l0 k (wrap64 (x4 + 1)) b0 b1 b2 b3 b4 b5 b6 b7 b8 b9 b10 b11 b12 b13 b14 b15)) else (some ((⟨#[]⟩ : ByteArray), 2)))) else (if ((((rd_T91 b10 x4).f1).size : Int) % 8) = 6 then (if (((rd_T91 b10 x4).f1).size : Int) > 2046 then (some ((⟨#[]⟩ : ByteArray), 2)) else (intrusionref12_Encode.l0 k (wrap64 (x4 + 1)) b0 b1 b2 b3 b4 b5 b6 b7 b8 b9 b10 b11 b12 b13 b14 b15)) else (some ((⟨#[]⟩ : ByteArray), 2)))) else (some ((⟨#[]⟩ : ByteArray), 2)))) else (none)) else (if (b15.size : Int) > 65535 then (some ((⟨#[]⟩ : ByteArray), 3)) else (if b11 = true then (if b14 = true then (intrusionref12_Encode.j1 k b3 b15 1 b0 b1 b2 b3 b4 b5 b6 b7 b8 b9 b10 b11 b12 b13 b14 b15) else (intrusionref12_Encode.j1 k b3 b15 0 b0 b1 b2 b3 b4 b5 b6 b7 b8 b9 b10 b11 b12 b13 b14 b15)) else (intrusionref12_Encode.j2 k b3 b15 b0 b1 b2 b3 b4 b5 b6 b7 b8 b9 b10 b11 b12 b13 b14 b15)))
def intrusionref12_Encode.j2 : Nat → Int → ByteArray → Int → Int → Int → Int → Bool → Int → Int → Bool → Int → Int → List (S91) → Bool → Int → Int → Bool → ByteArray → Option (ByteArray × Int)
 | 0, _, _, _, _, _, _, _, _, _, _, _, _, _, _, _, _, _, _ => none
 | k + 1, x6, x7, b0, b1, b2, b3, b4, b5, b6, b7, b8, b9, b10, b11, b12, b13, b14, b15 => intrusionref12_Encode.l1 k x6 x7 (wrap64 ((b10.length : Int) - 1)) b0 b1 b2 b3 b4 b5 b6 b7 b8 b9 b10 b11 b12 b13 b14 b15
def intrusionref12_Encode.l1 : Nat → Int → ByteArray → Int → Int → Int → Int → Int → Bool → Int → Int → Bool → Int → Int → List (S91) → Bool → Int → Int → Bool → ByteArray → Option (ByteArray × Int)
 | 0, _, _, _, _, _, _, _, _, _, _, _, _, _, _, _, _, _, _, _ => none
 | k + 1, x6, x7, x9, b0, b1, b2, b3, b4, b5, b6, b7, b8, b9, b10, b11, b12, b13, b14, b15 => if x9 ≥ 0 then (if 0 ≤ x9 then (if x9 < (b10.length : Int) then ((intrusionref12_put.f k x6 1).bind fun t419 => ((intrusionref12_put.f k (wrap64 (Int.tdiv (wrap64 ((((rd_T91 b10 x9).f1).size : Int) - 6)) 8)) 1).bind fun t420 => (if t419.size + t420.size ≤ 9223372036854775807 then (if (t419 ++ t420).size + ((rd_T91 b10 x9).f1).size ≤ 9223372036854775807 then (if ((t419 ++ t420) ++ ((rd_T91 b10 x9).f1)).size + x7.size ≤ 9223372036854775807 then (intrusionref12_Encode.l1 k ((rd_T91 b10 x9).f0) (((t419 ++ t420) ++ ((rd_T91 b10 x9).f1)) ++ x7) (wrap64 (x9 - 1)) b0 b1 b2 b3 b4 b5 b6 b7 b8 b9 b10 b11 b12 b13 b14 b15) else (none)) else (none)) else (none)))) else (none)) else (none)) else (if (x7.size : Int) > 65535 then (some ((⟨#[]⟩ : ByteArray), 3)) else ((intrusionref12_put.f k (Go.bits .or .i64 (Go.bits .or .i64 1610612736 (wrap64 (b0 * 1048576))) b1) 4).bind fun t421 => ((intrusionref12_put.f k (x7.size : Int) 2).bind fun t422 => (if t421.size + t422.size ≤ 9223372036854775807 then ((intrusionref12_put.f k x6 1).bind fun t423 => (if (t421 ++ t422).size + t423.size ≤ 9223372036854775807 then ((intrusionref12_put.f k b2 1).bind fun t424 => (if ((t421 ++ t422) ++ t423).size + t424.size ≤ 9223372036854775807 then ((intrusionref06_Bytes.f k b4 b5 b6).bind fun t425 => (if (((t421 ++ t422) ++ t423) ++ t424).size + t425.size ≤ 9223372036854775807 then ((intrusionref06_Bytes.f k b7 b8 b9).bind fun t426 => (if ((((t421 ++ t422) ++ t423) ++ t424) ++ t425).size + t426.size ≤ 9223372036854775807 then (if (((((t421 ++ t422) ++ t423) ++ t424) ++ t425) ++ t426).size + x7.size ≤ 9223372036854775807 then (some ((((((t421 ++ t422) ++ t423) ++ t424) ++ t425) ++ t426) ++ x7, 0)) else (none)) else (none))) else (none))) else (none))) else (none))) else (none)))))
def intrusionref12_Encode.j1 : Nat → Int → ByteArray → Int → Int → Int → Int → Int → Bool → Int → Int → Bool → Int → Int → List (S91) → Bool → Int → Int → Bool → ByteArray → Option (ByteArray × Int)
 | 0, _, _, _, _, _, _, _, _, _, _, _, _, _, _, _, _, _, _, _ => none
 | k + 1, x6, x7, x8, b0, b1, b2, b3, b4, b5, b6, b7, b8, b9, b10, b11, b12, b13, b14, b15 => (intrusionref12_put.f k x6 1).bind fun t413 => ((intrusionref12_put.f k 0 1).bind fun t414 => (if t413.size + t414.size ≤ 9223372036854775807 then ((intrusionref12_put.f k (wrap64 (b13 + x8)) 2).bind fun t415 => (if (t413 ++ t414).size + t415.size ≤ 9223372036854775807 then ((intrusionref12_put.f k b12 4).bind fun t416 => (if ((t413 ++ t414) ++ t415).size + t416.size ≤ 9223372036854775807 then (if (((t413 ++ t414) ++ t415) ++ t416).size + x7.size ≤ 9223372036854775807 then (intrusionref12_Encode.j2 k 44 ((((t413 ++ t414) ++ t415) ++ t416) ++ x7) b0 b1 b2 b3 b4 b5 b6 b7 b8 b9 b10 b11 b12 b13 b14 b15) else (none)) else (none))) else (none))) else (none)))
end
def intrusionref12_Encode.f (k : Nat) (d0 : Int) (d1 : Int) (d2 : Int) (d3 : Int) (d4 : Bool) (d5 : Int) (d6 : Int) (d7 : Bool) (d8 : Int) (d9 : Int) (l0_10 : List (S91)) (d11 : Bool) (d12 : Int) (d13 : Int) (d14 : Bool) (d15 : ByteArray) : Option (ByteArray × Int) := (intrusionref12_ranges.f k d0 d1 d2 d3 d4 d5 d6 d7 d8 d9 l0_10 d11 d12 d13 d14 d15).bind fun t409 => (if t409 = true then (if (l0_10.length : Int) > 8 then (some ((⟨#[]⟩ : ByteArray), 9)) else (intrusionref12_Encode.l0 k 0 d0 d1 d2 d3 d4 d5 d6 d7 d8 d9 l0_10 d11 d12 d13 d14 d15)) else (some ((⟨#[]⟩ : ByteArray), 4)))
theorem intrusionref12_Encode.mono_l : ∀ k, (∀ y0 y1 y2 y3 y4 y5 y6 y7 y8 y9 y10 y11 y12 y13 y14 y15 y16, LeO (intrusionref12_Encode.l0 k y0 y1 y2 y3 y4 y5 y6 y7 y8 y9 y10 y11 y12 y13 y14 y15 y16) (intrusionref12_Encode.l0 (k + 1) y0 y1 y2 y3 y4 y5 y6 y7 y8 y9 y10 y11 y12 y13 y14 y15 y16)) ∧ (∀ y0 y1 y2 y3 y4 y5 y6 y7 y8 y9 y10 y11 y12 y13 y14 y15 y16 y17, LeO (intrusionref12_Encode.j2 k y0 y1 y2 y3 y4 y5 y6 y7 y8 y9 y10 y11 y12 y13 y14 y15 y16 y17) (intrusionref12_Encode.j2 (k + 1) y0 y1 y2 y3 y4 y5 y6 y7 y8 y9 y10 y11 y12 y13 y14 y15 y16 y17)) ∧ (∀ y0 y1 y2 y3 y4 y5 y6 y7 y8 y9 y10 y11 y12 y13 y14 y15 y16 y17 y18, LeO (intrusionref12_Encode.l1 k y0 y1 y2 y3 y4 y5 y6 y7 y8 y9 y10 y11 y12 y13 y14 y15 y16 y17 y18) (intrusionref12_Encode.l1 (k + 1) y0 y1 y2 y3 y4 y5 y6 y7 y8 y9 y10 y11 y12 y13 y14 y15 y16 y17 y18)) ∧ (∀ y0 y1 y2 y3 y4 y5 y6 y7 y8 y9 y10 y11 y12 y13 y14 y15 y16 y17 y18, LeO (intrusionref12_Encode.j1 k y0 y1 y2 y3 y4 y5 y6 y7 y8 y9 y10 y11 y12 y13 y14 y15 y16 y17 y18) (intrusionref12_Encode.j1 (k + 1) y0 y1 y2 y3 y4 y5 y6 y7 y8 y9 y10 y11 y12 y13 y14 y15 y16 y17 y18))
 | 0 => ⟨fun _ _ _ _ _ _ _ _ _ _ _ _ _ _ _ _ _ r h => by simp [intrusionref12_Encode.l0] at h, fun _ _ _ _ _ _ _ _ _ _ _ _ _ _ _ _ _ _ r h => by simp [intrusionref12_Encode.j2] at h, fun _ _ _ _ _ _ _ _ _ _ _ _ _ _ _ _ _ _ _ r h => by simp [intrusionref12_Encode.l1] at h, fun _ _ _ _ _ _ _ _ _ _ _ _ _ _ _ _ _ _ _ r h => by simp [intrusionref12_Encode.j1] at h⟩
 | k + 1 => by
  obtain ⟨ih0, ih1, ih2, ih3⟩ := intrusionref12_Encode.mono_l k
  refine ⟨?_, ?_, ?_, ?_⟩
  ·intro y0 y1 y2 y3 y4 y5 y6 y7 y8 y9 y10 y11 y12 y13 y14 y15 y16
   unfold intrusionref12_Encode.l0
   repeat' first | with_reducible first | apply ih0 | apply ih1 | apply ih2 | apply ih3 | apply intrusionref06_Bytes.mono | apply intrusionref12_put.mono | apply intrusionref12_ranges.mono | apply LeO.refl | apply LeO.none | refine LeO.ite ?_ ?_ | refine LeO.bind ?_ (fun _ => ?_)
  ·intro y0 y1 y2 y3 y4 y5 y6 y7 y8 y9 y10 y11 y12 y13 y14 y15 y16 y17
   unfold intrusionref12_Encode.j2
   repeat' first | with_reducible first | apply ih0 | apply ih1 | apply ih2 | apply ih3 | apply intrusionref06_Bytes.mono | apply intrusionref12_put.mono | apply intrusionref12_ranges.mono | apply LeO.refl | apply LeO.none | refine LeO.ite ?_ ?_ | refine LeO.bind ?_ (fun _ => ?_)
  ·intro y0 y1 y2 y3 y4 y5 y6 y7 y8 y9 y10 y11 y12 y13 y14 y15 y16 y17 y18
   unfold intrusionref12_Encode.l1
   repeat' first | with_reducible first | apply ih0 | apply ih1 | apply ih2 | apply ih3 | apply intrusionref06_Bytes.mono | apply intrusionref12_put.mono | apply intrusionref12_ranges.mono | apply LeO.refl | apply LeO.none | refine LeO.ite ?_ ?_ | refine LeO.bind ?_ (fun _ => ?_)
  intro y0 y1 y2 y3 y4 y5 y6 y7 y8 y9 y10 y11 y12 y13 y14 y15 y16 y17 y18
  unfold intrusionref12_Encode.j1
  repeat' first | with_reducible first | apply ih0 | apply ih1 | apply ih2 | apply ih3 | apply intrusionref06_Bytes.mono | apply intrusionref12_put.mono | apply intrusionref12_ranges.mono | apply LeO.refl | apply LeO.none | refine LeO.ite ?_ ?_ | refine LeO.bind ?_ (fun _ => ?_)
theorem intrusionref12_Encode.mono : ∀ a0 a1 a2 a3 a4 a5 a6 a7 a8 a9 a10 a11 a12 a13 a14 a15 k, LeO (intrusionref12_Encode.f k a0 a1 a2 a3 a4 a5 a6 a7 a8 a9 a10 a11 a12 a13 a14 a15) (intrusionref12_Encode.f (k + 1) a0 a1 a2 a3 a4 a5 a6 a7 a8 a9 a10 a11 a12 a13 a14 a15) := by
 intro a0 a1 a2 a3 a4 a5 a6 a7 a8 a9 a10 a11 a12 a13 a14 a15 k
 obtain ⟨ih0, ih1, ih2, ih3⟩ := intrusionref12_Encode.mono_l k
 unfold intrusionref12_Encode.f
 repeat' first | with_reducible first | apply ih0 | apply ih1 | apply ih2 | apply ih3 | apply intrusionref06_Bytes.mono | apply intrusionref12_put.mono | apply intrusionref12_ranges.mono | apply LeO.refl | apply LeO.none | refine LeO.ite ?_ ?_ | refine LeO.bind ?_ (fun _ => ?_)
def intrusionref12_Encode.T19 : Bool × List (List Nat × List Nat) := (true, [([], []), ([0], [0]), ([1], []), ([1, 2], [1, 2]), ([], []), ([4], [4]), ([], []), ([5, 6], [5, 6]), ([7, 2], [7]), ([3, 8], [3, 8]), ([], []), ([10], [10]), ([11, 8], [11]), ([9, 12], [9, 12]), ([], []), ([13, 14], [13, 14]), ([15, 12, 0, 1, 2, 3, 4, 5, 6, 7, 8, 9, 10, 11, 12, 13, 14, 15], [14, 15])])
def intrusionref12_Encode.B19 : List Nat := [0, 1, 3, 7, 0, 16, 0, 112, 247, 511, 0, 1024, 3575, 8191, 0, 32767, 65535]
theorem intrusionref12_Encode.tab19 : rtab .any (opsOf Tryd.f37 19) = intrusionref12_Encode.T19 := by kernel_rfl
theorem intrusionref12_Encode.bits19 : waitsOk intrusionref12_Encode.T19.2 intrusionref12_Encode.B19 = true := by kernel_rfl
def intrusionref12_Encode.T25 : Bool × List (List Nat × List Nat) := (true, [([], []), ([0], [0]), ([], []), ([2], [2]), ([3], [3]), ([4], [4]), ([5], [5]), ([6, 1], [6]), ([1, 7], [1, 7]), ([], []), ([9], [9]), ([8, 10], [8, 10]), ([], []), ([11, 12], [11, 12]), ([13, 7, 0, 1, 2, 3, 4, 5, 6, 7, 8, 9, 10, 11, 12, 13], [12, 13])])
def intrusionref12_Encode.B25 : List Nat := [0, 1, 0, 4, 12, 28, 60, 127, 255, 0, 512, 2047, 0, 8191, 16383]
theorem intrusionref12_Encode.tab25 : rtab .any (opsOf Tryd.f37 25) = intrusionref12_Encode.T25 := by kernel_rfl
theorem intrusionref12_Encode.bits25 : waitsOk intrusionref12_Encode.T25.2 intrusionref12_Encode.B25 = true := by kernel_rfl
def intrusionref12_Encode.T29 : Bool × List (List Nat × List Nat) := (true, [([], []), ([0], [0]), ([1], [1]), ([2], [2]), ([], []), ([4], [4]), ([3, 5], [3, 5]), ([6], [6]), ([], []), ([8], [8]), ([9, 7], [9]), ([7, 10], [7, 10]), ([], []), ([12, 10], [12]), ([11, 13], [11, 13]), ([], []), ([15], [15]), ([16, 13], [16]), ([14, 17], [14, 17]), ([], []), ([19], [19]), ([20, 17], [20]), ([18, 21], [18, 21]), ([], []), ([23], [23]), ([24, 21], [24]), ([22, 25], [22, 25]), ([], []), ([26, 27], [26, 27]), ([28, 25, 0, 1, 2, 3, 4, 5, 6, 7, 8, 9, 10, 11, 12, 13, 14, 15, 16, 17, 18, 19, 20, 21, 22, 23, 24, 25, 26, 27, 28], [28]), ([29, 0, 1, 2, 3, 4, 5, 6, 7, 8, 9, 10, 11, 12, 13, 14, 15, 16, 17, 18, 19, 20, 21, 22, 23, 24, 25, 26, 27, 28, 29], [])])
def intrusionref12_Encode.B29 : List Nat := [0, 1, 3, 7, 0, 16, 63, 127, 0, 256, 1023, 2047, 0, 6143, 16383, 0, 32768, 112639, 262143, 0, 524288, 1816575, 4194303, 0, 8388608, 29079551, 67108863, 0, 268435455, 536870911, 1073741823]
theorem intrusionref12_Encode.tab29 : rtab .any (opsOf Tryd.f37 29) = intrusionref12_Encode.T29 := by kernel_rfl
theorem intrusionref12_Encode.bits29 : waitsOk intrusionref12_Encode.T29.2 intrusionref12_Encode.B29 = true := by kernel_rfl
set_option maxHeartbeats 8000000 in
set_option maxRecDepth 100000 in
theorem intrusionref12_Encode.calls (k : Nat) (d0 : Int) (d1 : Int) (d2 : Int) (d3 : Int) (d4 : Bool) (d5 : Int) (d6 : Int) (d7 : Bool) (d8 : Int) (d9 : Int) (A0_10 : Option Addr) (c0_10 : Nat) (l0_10 : List (S91)) (d11 : Bool) (d12 : Int) (d13 : Int) (d14 : Bool) (d15 : ByteArray) (r1 : ByteArray) (r2 : Int) (w : World) (hr0_10 : Kd.C k91 w A0_10 l0_10.length l0_10) (hc0_10 : l0_10.length ≤ c0_10) (h : intrusionref12_Encode.f k d0 d1 d2 d3 d4 d5 d6 d7 d8 d9 l0_10 d11 d12 d13 d14 d15 = some (r1, r2)) :
  Calls Tryd.prog 37 #[.agg #[.int .i64 d0, .int .i64 d1, .int .i64 d2, .int .i64 d3, .bool d4, .int .u64 d5, .int .u64 d6, .bool d7, .int .u64 d8, .int .u64 d9, .slice A0_10 l0_10.length c0_10, .bool d11, .int .i64 d12, .int .i64 d13, .bool d14, .string d15]] w fun e w' => e = .returned (.tuple #[.string r1, .int .i64 r2]) ∧ Below w.heap.size w w' := by
 have hu60 := Tryd.underlying60
 have hu91 := Tryd.underlying91
 have hu24 := Tryd.underlying24
 have HR0_10 := As hr0_10
 have HC0_10 := As hc0_10
 clear hr0_10 hc0_10
 have HB := As (Below.refl w.heap.size w)
 have H : ((intrusionref12_ranges.f k d0 d1 d2 d3 d4 d5 d6 d7 d8 d9 l0_10 d11 d12 d13 d14 d15).bind fun t409 => (if t409 = true then (if (l0_10.length : Int) > 8 then (some ((⟨#[]⟩ : ByteArray), 9)) else (intrusionref12_Encode.l0 k 0 d0 d1 d2 d3 d4 d5 d6 d7 d8 d9 l0_10 d11 d12 d13 d14 d15)) else (some ((⟨#[]⟩ : ByteArray), 4)))) = some (r1, r2) := h
 clear h
 replace H := bS H
 obtain ⟨t409, A2, H⟩ := H
 by_cases c3 : t409 = true
 ·subst c3
  rw [if_pos rfl] at H
  by_cases c4 : (l0_10.length : Int) > 8
  ·rw [if_pos c4] at H
   have c4b0 : decide (8 < (l0_10.length : Int)) = true := decide_eq_true c4
   have c4b1 : decide (8 < l0_10.length) = true := decide_eq_true (by omega)
   clear c4
   simp only [Option.some.injEq, Prod.mk.injEq] at H
   obtain ⟨rfl, rfl⟩ := H
   go_enter Tryd.func37, Tryd.ntmps37
   go_wp2_with (first | ((with_reducible refine gate_dst (N := 1) rfl ?_); (try (refine gate_guard (by rfl) ?_; dsimp only)); refine box_event rfl (N := 1) rfl (cs := #[.int .i64 d0, .int .i64 d1, .int .i64 d2, .int .i64 d3, .bool d4, .int .u64 d5, .int .u64 d6, .bool d7, .int .u64 d8, .int .u64 d9, .slice A0_10 l0_10.length c0_10, .bool d11, .int .i64 d12, .int .i64 d13, .bool d14, .string d15]) (t := 60) kG ?_; intro gb408 hg w5 hbox hb; have BK408 := As (hbox); have GW408 := As ((by rw [hg]; exact (below_size (kB HB.out)) : w.heap.size ≤ gb408)); have GE408 := As ((by rw [hg]; exact (below_size (kB HB.out)) : w.heap.size ≤ gb408)); replace HB := As (below_step (kB HB.out) hb); clear hb hbox hg) | ((with_reducible refine gate_dst (N := 11) rfl ?_); (try (refine gate_guard (by rfl) ?_; dsimp only)); refine wpList_load_row ?hgd 60 _ rfl gb408 rfl 60 #[.int .i64 d0, .int .i64 d1, .int .i64 d2, .int .i64 d3, .bool d4, .int .u64 d5, .int .u64 d6, .bool d7, .int .u64 d8, .int .u64 d9, .slice A0_10 l0_10.length c0_10, .bool d11, .int .i64 d12, .int .i64 d13, .bool d14, .string d15] (0, 0) _ (kb BK408.out) Tryd.underlying60 rfl (by kernel_rfl) ?_; (case hgd => rfl)) | ((with_reducible refine gate_callee (f := 64) rfl ?_); refine goesL_ (some 12) rfl rfl Tryd.func64 (by kernel_rfl) rfl #[.agg #[.int .i64 d0, .int .i64 d1, .int .i64 d2, .int .i64 d3, .bool d4, .int .u64 d5, .int .u64 d6, .bool d7, .int .u64 d8, .int .u64 d9, .slice A0_10 l0_10.length c0_10, .bool d11, .int .i64 d12, .int .i64 d13, .bool d14, .string d15]] rfl kA ?_; (with_reducible refine (intrusionref12_ranges.calls k d0 d1 d2 d3 d4 d5 d6 d7 d8 d9 _ _ l0_10 d11 d12 d13 d14 d15 true _ ?side1 ?side2 A2.out).mono ?_); (case side1 => repeat (first | exact (Kd.C_below HR0_10.out HB.out) | (with_reducible refine Kd.C_alloc ?_ _) | (with_reducible refine Kd.C_drewN ?_ _) | (with_reducible refine Kd.C_drew ?_))); (case side2 => exact HC0_10.out); rintro e w6 ⟨rfl, hb⟩; refine ⟨_, rfl, ?_⟩; replace BK408 := As (blk_below (kb BK408.out) hb); replace HB := As (below_step (kB1 HB.out GE408.out) hb); (try clear hb); have hcz7_0 := cells_16 BK408.out; have hfz7_0 := fun j_ => blk_frozen BK408.out j_))
   go_ret2
   exact ⟨kE, by exact kB1 HB.out GE408.out⟩
  rw [if_neg c4] at H
  have c4b0 : decide (8 < (l0_10.length : Int)) = false := decide_eq_false c4
  have c4b1 : decide (8 < l0_10.length) = false := decide_eq_false (by omega)
  clear c4
  have H' := As H
  clear H
  go_enter Tryd.func37, Tryd.ntmps37
  go_wp2_with (first | ((with_reducible refine gate_dst (N := 1) rfl ?_); (try (refine gate_guard (by rfl) ?_; dsimp only)); refine box_event rfl (N := 1) rfl (cs := #[.int .i64 d0, .int .i64 d1, .int .i64 d2, .int .i64 d3, .bool d4, .int .u64 d5, .int .u64 d6, .bool d7, .int .u64 d8, .int .u64 d9, .slice A0_10 l0_10.length c0_10, .bool d11, .int .i64 d12, .int .i64 d13, .bool d14, .string d15]) (t := 60) kG ?_; intro gb408 hg w8 hbox hb; have BK408 := As (hbox); have GW408 := As ((by rw [hg]; exact (below_size (kB HB.out)) : w.heap.size ≤ gb408)); have GE408 := As ((by rw [hg]; exact (below_size (kB HB.out)) : w.heap.size ≤ gb408)); replace HB := As (below_step (kB HB.out) hb); clear hb hbox hg) | ((with_reducible refine gate_dst (N := 11) rfl ?_); (try (refine gate_guard (by rfl) ?_; dsimp only)); refine wpList_load_row ?hgd 60 _ rfl gb408 rfl 60 #[.int .i64 d0, .int .i64 d1, .int .i64 d2, .int .i64 d3, .bool d4, .int .u64 d5, .int .u64 d6, .bool d7, .int .u64 d8, .int .u64 d9, .slice A0_10 l0_10.length c0_10, .bool d11, .int .i64 d12, .int .i64 d13, .bool d14, .string d15] (0, 0) _ (kb BK408.out) Tryd.underlying60 rfl (by kernel_rfl) ?_; (case hgd => rfl)) | ((with_reducible refine gate_callee (f := 64) rfl ?_); refine goesL_ (some 12) rfl rfl Tryd.func64 (by kernel_rfl) rfl #[.agg #[.int .i64 d0, .int .i64 d1, .int .i64 d2, .int .i64 d3, .bool d4, .int .u64 d5, .int .u64 d6, .bool d7, .int .u64 d8, .int .u64 d9, .slice A0_10 l0_10.length c0_10, .bool d11, .int .i64 d12, .int .i64 d13, .bool d14, .string d15]] rfl kA ?_; (with_reducible refine (intrusionref12_ranges.calls k d0 d1 d2 d3 d4 d5 d6 d7 d8 d9 _ _ l0_10 d11 d12 d13 d14 d15 true _ ?side1 ?side2 A2.out).mono ?_); (case side1 => repeat (first | exact (Kd.C_below HR0_10.out HB.out) | (with_reducible refine Kd.C_alloc ?_ _) | (with_reducible refine Kd.C_drewN ?_ _) | (with_reducible refine Kd.C_drew ?_))); (case side2 => exact HC0_10.out); rintro e w9 ⟨rfl, hb⟩; refine ⟨_, rfl, ?_⟩; replace BK408 := As (blk_below (kb BK408.out) hb); replace HB := As (below_step (kB1 HB.out GE408.out) hb); (try clear hb); have hcz10_0 := cells_16 BK408.out; have hfz10_0 := fun j_ => blk_frozen BK408.out j_))
  go_loopg [4] k (fun kq v4 w' => ∃ (x4_1 : Int), v4 = .int .i64 x4_1 ∧ Aside0 (intrusionref12_Encode.l0 kq x4_1 d0 d1 d2 d3 d4 d5 d6 d7 d8 d9 l0_10 d11 d12 d13 d14 d15 = some (r1, r2)) ∧ Aside0 (kq ≤ k) ∧ Aside0 (w'.heap[gb408]? = some (.cells #[.int .i64 d0, .int .i64 d1, .int .i64 d2, .int .i64 d3, .bool d4, .int .u64 d5, .int .u64 d6, .bool d7, .int .u64 d8, .int .u64 d9, (.slice A0_10 l0_10.length c0_10), .bool d11, .int .i64 d12, .int .i64 d13, .bool d14, .string d15] 60 (0, 0))) ∧ Aside0 (Below w.heap.size w w'))
  case atStart => exact ⟨(0), kS, H', ⟨Nat.le_refl _⟩, ⟨kb BK408.out⟩, ⟨kB1 HB.out GE408.out⟩⟩
  clear H'
  try clear c3
  try clear c4
  try clear c4b0
  try clear c4b1
  try clear hcz10_0
  try clear hfz10_0
  obtain ⟨x4_1, rfl, HA, HK1, BK408, HB⟩ := hrel
  cases gk with
  | zero => exact absurd HA.out (by simp [intrusionref12_Encode.l0])
  | succ k1 =>
   have H := HA.out
   clear HA
   simp only [intrusionref12_Encode.l0] at H
   by_cases c11 : x4_1 < (l0_10.length : Int)
   ·rw [if_pos c11] at H
    have c11b0 : decide (x4_1 < (l0_10.length : Int)) = true := decide_eq_true c11
    clear c11
    replace H := iS H
    obtain ⟨c12, H⟩ := H
    have c12b0 := decide_eq_true c12
    clear c12
    replace H := bS H
    obtain ⟨t412, A13, H⟩ := H
    by_cases c14 : t412 = true
    ·subst c14
     rw [if_pos rfl] at H
     by_cases c15 : ((rd_T91 l0_10 x4_1).f0) = 0
     ·rw [if_pos c15] at H
      have c15b0 : (((rd_T91 l0_10 x4_1).f0) == 0) = true := beq_iff_eq.mpr c15
      have c15b1 : (((rd_T91 l0_10 x4_1).f0) != 0) = false := bne_eq_false_iff_eq.mpr c15
      clear c15
      by_cases c16 : x4_1 > 0
      ·rw [if_pos c16] at H
       have c16b0 : decide (0 < x4_1) = true := decide_eq_true c16
       clear c16
       simp only [Option.some.injEq, Prod.mk.injEq] at H
       obtain ⟨rfl, rfl⟩ := H
       have hcz17_0 := cells_16 BK408.out
       have hfz17_0 := fun j_ => blk_frozen BK408.out j_
       have p410 : 0 ≤ (x4_1 : Int) := of_decide_eq_true (by first | (with_reducible assumption) | assumption)
       have q410 : x4_1 < (l0_10.length : Int) := of_decide_eq_true (by first | (with_reducible assumption) | assumption)
       obtain ⟨ad410, e410, hx410_0, hx410_1⟩ := at_T91 HR0_10.out x4_1 p410 q410
       cases e410
       replace hx410_0 := hcell HB.out hx410_0
       replace hx410_1 := hcell HB.out hx410_1
       replace p410 := eq_true p410
       replace q410 := eq_true q410
       go_wp2_with (first | ((with_reducible refine gate_dst (N := 5) rfl ?_); (try (refine gate_guard (by rfl) ?_; dsimp only)); refine box_event rfl (N := 5) rfl (cs := #[.int .i64 0, .string (⟨#[]⟩ : ByteArray)]) (t := 91) kG ?_; intro gb411 hg w18 hbox hb; have BK411 := As (hbox); have GW411 := As ((by rw [hg]; exact (below_size (kB1 HB.out GE408.out)) : w.heap.size ≤ gb411)); have GE411 := As ((by rw [hg]; exact (below_size (kB1 HB.out GE408.out)) : w.heap.size ≤ gb411)); replace HB := As (below_step (kB1 HB.out GE408.out) hb); have NB408_411 := As ((by rw [hg]; exact Nat.ne_of_lt (blk_lt (kb BK408.out)) : gb408 ≠ gb411)); have NB411_408 := As ((by rw [hg]; exact Nat.ne_of_gt (blk_lt (kb BK408.out)) : gb411 ≠ gb408)); replace BK408 := As (blk_below (kb BK408.out) hb); clear hb hbox hg; have hnb19 := NB411_408.out; have hnc19 := NB408_411.out; have hcz20_0 := cells_2 BK411.out; have hfz20_0 := fun j_ => blk_frozen BK411.out j_) | ((with_reducible refine gate_callee (f := 65) rfl ?_); refine goesL_ (some 32) rfl rfl Tryd.func65 (by kernel_rfl) rfl #[.int .i64 ((rd_T91 l0_10 x4_1).f0)] rfl kA ?_; (with_reducible refine (intrusionref12_extension.calls ((rd_T91 l0_10 x4_1).f0) true _ A13.out).mono ?_); rintro e w' ⟨rfl, ⟨nd, rfl⟩⟩; refine ⟨_, rfl, ?_⟩))
       go_ret2
       exact ⟨kE, by exact kB2 HB.out GE408.out GE411.out⟩
      rw [if_neg c16] at H
      have c16b0 : decide (0 < x4_1) = false := decide_eq_false c16
      clear c16
      by_cases c21 : ((((rd_T91 l0_10 x4_1).f1).size : Int) % 8) = 6
      ·rw [if_pos c21] at H
       have c21b0 : (((((rd_T91 l0_10 x4_1).f1).size : Int) % 8) == 6) = true := beq_iff_eq.mpr c21
       have c21b1 : (((((rd_T91 l0_10 x4_1).f1).size : Int) % 8) != 6) = false := bne_eq_false_iff_eq.mpr c21
       clear c21
       by_cases c22 : (((rd_T91 l0_10 x4_1).f1).size : Int) > 2046
       ·rw [if_pos c22] at H
        have c22b0 : decide (2046 < (((rd_T91 l0_10 x4_1).f1).size : Int)) = true := decide_eq_true c22
        have c22b1 : decide (2046 < ((rd_T91 l0_10 x4_1).f1).size) = true := decide_eq_true (by omega)
        clear c22
        simp only [Option.some.injEq, Prod.mk.injEq] at H
        obtain ⟨rfl, rfl⟩ := H
        have hcz23_0 := cells_16 BK408.out
        have hfz23_0 := fun j_ => blk_frozen BK408.out j_
        have p410 : 0 ≤ (x4_1 : Int) := of_decide_eq_true (by first | (with_reducible assumption) | assumption)
        have q410 : x4_1 < (l0_10.length : Int) := of_decide_eq_true (by first | (with_reducible assumption) | assumption)
        obtain ⟨ad410, e410, hx410_0, hx410_1⟩ := at_T91 HR0_10.out x4_1 p410 q410
        cases e410
        replace hx410_0 := hcell HB.out hx410_0
        replace hx410_1 := hcell HB.out hx410_1
        replace p410 := eq_true p410
        replace q410 := eq_true q410
        go_wp2_with (first | ((with_reducible refine gate_dst (N := 5) rfl ?_); (try (refine gate_guard (by rfl) ?_; dsimp only)); refine box_event rfl (N := 5) rfl (cs := #[.int .i64 0, .string (⟨#[]⟩ : ByteArray)]) (t := 91) kG ?_; intro gb411 hg w24 hbox hb; have BK411 := As (hbox); have GW411 := As ((by rw [hg]; exact (below_size (kB1 HB.out GE408.out)) : w.heap.size ≤ gb411)); have GE411 := As ((by rw [hg]; exact (below_size (kB1 HB.out GE408.out)) : w.heap.size ≤ gb411)); replace HB := As (below_step (kB1 HB.out GE408.out) hb); have NB408_411 := As ((by rw [hg]; exact Nat.ne_of_lt (blk_lt (kb BK408.out)) : gb408 ≠ gb411)); have NB411_408 := As ((by rw [hg]; exact Nat.ne_of_gt (blk_lt (kb BK408.out)) : gb411 ≠ gb408)); replace BK408 := As (blk_below (kb BK408.out) hb); clear hb hbox hg; have hnb25 := NB411_408.out; have hnc25 := NB408_411.out; have hcz26_0 := cells_2 BK411.out; have hfz26_0 := fun j_ => blk_frozen BK411.out j_) | ((with_reducible refine gate_callee (f := 65) rfl ?_); refine goesL_ (some 32) rfl rfl Tryd.func65 (by kernel_rfl) rfl #[.int .i64 ((rd_T91 l0_10 x4_1).f0)] rfl kA ?_; (with_reducible refine (intrusionref12_extension.calls ((rd_T91 l0_10 x4_1).f0) true _ A13.out).mono ?_); rintro e w' ⟨rfl, ⟨nd, rfl⟩⟩; refine ⟨_, rfl, ?_⟩))
        go_ret2
        exact ⟨kE, by exact kB2 HB.out GE408.out GE411.out⟩
       rw [if_neg c22] at H
       have c22b0 : decide (2046 < (((rd_T91 l0_10 x4_1).f1).size : Int)) = false := decide_eq_false c22
       have c22b1 : decide (2046 < ((rd_T91 l0_10 x4_1).f1).size) = false := decide_eq_false (by omega)
       clear c22
       have H' := As H
       clear H
       have hcz27_0 := cells_16 BK408.out
       have hfz27_0 := fun j_ => blk_frozen BK408.out j_
       have p410 : 0 ≤ (x4_1 : Int) := of_decide_eq_true (by first | (with_reducible assumption) | assumption)
       have q410 : x4_1 < (l0_10.length : Int) := of_decide_eq_true (by first | (with_reducible assumption) | assumption)
       obtain ⟨ad410, e410, hx410_0, hx410_1⟩ := at_T91 HR0_10.out x4_1 p410 q410
       cases e410
       replace hx410_0 := hcell HB.out hx410_0
       replace hx410_1 := hcell HB.out hx410_1
       replace p410 := eq_true p410
       replace q410 := eq_true q410
       go_wp2_with (first | ((with_reducible refine gate_dst (N := 5) rfl ?_); (try (refine gate_guard (by rfl) ?_; dsimp only)); refine box_event rfl (N := 5) rfl (cs := #[.int .i64 0, .string (⟨#[]⟩ : ByteArray)]) (t := 91) kG ?_; intro gb411 hg w28 hbox hb; have BK411 := As (hbox); have GW411 := As ((by rw [hg]; exact (below_size (kB1 HB.out GE408.out)) : w.heap.size ≤ gb411)); have GE411 := As ((by rw [hg]; exact (below_size (kB1 HB.out GE408.out)) : w.heap.size ≤ gb411)); replace HB := As (below_step (kB1 HB.out GE408.out) hb); have NB408_411 := As ((by rw [hg]; exact Nat.ne_of_lt (blk_lt (kb BK408.out)) : gb408 ≠ gb411)); have NB411_408 := As ((by rw [hg]; exact Nat.ne_of_gt (blk_lt (kb BK408.out)) : gb411 ≠ gb408)); replace BK408 := As (blk_below (kb BK408.out) hb); clear hb hbox hg; have hnb29 := NB411_408.out; have hnc29 := NB408_411.out; have hcz30_0 := cells_2 BK411.out; have hfz30_0 := fun j_ => blk_frozen BK411.out j_) | ((with_reducible refine gate_callee (f := 65) rfl ?_); refine goesL_ (some 32) rfl rfl Tryd.func65 (by kernel_rfl) rfl #[.int .i64 ((rd_T91 l0_10 x4_1).f0)] rfl kA ?_; (with_reducible refine (intrusionref12_extension.calls ((rd_T91 l0_10 x4_1).f0) true _ A13.out).mono ?_); rintro e w' ⟨rfl, ⟨nd, rfl⟩⟩; refine ⟨_, rfl, ?_⟩))
       go_roundg k1
       case measure => have := HK1.out; omega
       case rel => exact ⟨(wrap64 (x4_1 + 1)), kS, H', ⟨by have := HK1.out; omega⟩, ⟨by refine kb ?_; refine blk_far ?_ NB408_411.out _; refine kb ?_; refine blk_far ?_ NB408_411.out _; exact kb BK408.out⟩, ⟨kB2 HB.out GE408.out GE411.out⟩⟩
      rw [if_neg c21] at H
      have c21b0 : (((((rd_T91 l0_10 x4_1).f1).size : Int) % 8) == 6) = false := beq_eq_false_iff_ne.mpr c21
      have c21b1 : (((((rd_T91 l0_10 x4_1).f1).size : Int) % 8) != 6) = true := bne_iff_ne.mpr c21
      simp only [Option.some.injEq, Prod.mk.injEq] at H
      obtain ⟨rfl, rfl⟩ := H
      have hcz31_0 := cells_16 BK408.out
      have hfz31_0 := fun j_ => blk_frozen BK408.out j_
      have p410 : 0 ≤ (x4_1 : Int) := of_decide_eq_true (by first | (with_reducible assumption) | assumption)
      have q410 : x4_1 < (l0_10.length : Int) := of_decide_eq_true (by first | (with_reducible assumption) | assumption)
      obtain ⟨ad410, e410, hx410_0, hx410_1⟩ := at_T91 HR0_10.out x4_1 p410 q410
      cases e410
      replace hx410_0 := hcell HB.out hx410_0
      replace hx410_1 := hcell HB.out hx410_1
      replace p410 := eq_true p410
      replace q410 := eq_true q410
      go_wp2_with (first | ((with_reducible refine gate_dst (N := 5) rfl ?_); (try (refine gate_guard (by rfl) ?_; dsimp only)); refine box_event rfl (N := 5) rfl (cs := #[.int .i64 0, .string (⟨#[]⟩ : ByteArray)]) (t := 91) kG ?_; intro gb411 hg w32 hbox hb; have BK411 := As (hbox); have GW411 := As ((by rw [hg]; exact (below_size (kB1 HB.out GE408.out)) : w.heap.size ≤ gb411)); have GE411 := As ((by rw [hg]; exact (below_size (kB1 HB.out GE408.out)) : w.heap.size ≤ gb411)); replace HB := As (below_step (kB1 HB.out GE408.out) hb); have NB408_411 := As ((by rw [hg]; exact Nat.ne_of_lt (blk_lt (kb BK408.out)) : gb408 ≠ gb411)); have NB411_408 := As ((by rw [hg]; exact Nat.ne_of_gt (blk_lt (kb BK408.out)) : gb411 ≠ gb408)); replace BK408 := As (blk_below (kb BK408.out) hb); clear hb hbox hg; have hnb33 := NB411_408.out; have hnc33 := NB408_411.out; have hcz34_0 := cells_2 BK411.out; have hfz34_0 := fun j_ => blk_frozen BK411.out j_) | ((with_reducible refine gate_callee (f := 65) rfl ?_); refine goesL_ (some 32) rfl rfl Tryd.func65 (by kernel_rfl) rfl #[.int .i64 ((rd_T91 l0_10 x4_1).f0)] rfl kA ?_; (with_reducible refine (intrusionref12_extension.calls ((rd_T91 l0_10 x4_1).f0) true _ A13.out).mono ?_); rintro e w' ⟨rfl, ⟨nd, rfl⟩⟩; refine ⟨_, rfl, ?_⟩))
      go_ret2
      exact ⟨kE, by exact kB2 HB.out GE408.out GE411.out⟩
     rw [if_neg c15] at H
     have c15b0 : (((rd_T91 l0_10 x4_1).f0) == 0) = false := beq_eq_false_iff_ne.mpr c15
     have c15b1 : (((rd_T91 l0_10 x4_1).f0) != 0) = true := bne_iff_ne.mpr c15
     by_cases c35 : ((((rd_T91 l0_10 x4_1).f1).size : Int) % 8) = 6
     ·rw [if_pos c35] at H
      have c35b0 : (((((rd_T91 l0_10 x4_1).f1).size : Int) % 8) == 6) = true := beq_iff_eq.mpr c35
      have c35b1 : (((((rd_T91 l0_10 x4_1).f1).size : Int) % 8) != 6) = false := bne_eq_false_iff_eq.mpr c35
      clear c35
      by_cases c36 : (((rd_T91 l0_10 x4_1).f1).size : Int) > 2046
      ·rw [if_pos c36] at H
       have c36b0 : decide (2046 < (((rd_T91 l0_10 x4_1).f1).size : Int)) = true := decide_eq_true c36
       have c36b1 : decide (2046 < ((rd_T91 l0_10 x4_1).f1).size) = true := decide_eq_true (by omega)
       clear c36
       simp only [Option.some.injEq, Prod.mk.injEq] at H
       obtain ⟨rfl, rfl⟩ := H
       have hcz37_0 := cells_16 BK408.out
       have hfz37_0 := fun j_ => blk_frozen BK408.out j_
       have p410 : 0 ≤ (x4_1 : Int) := of_decide_eq_true (by first | (with_reducible assumption) | assumption)
       have q410 : x4_1 < (l0_10.length : Int) := of_decide_eq_true (by first | (with_reducible assumption) | assumption)
       obtain ⟨ad410, e410, hx410_0, hx410_1⟩ := at_T91 HR0_10.out x4_1 p410 q410
       cases e410
       replace hx410_0 := hcell HB.out hx410_0
       replace hx410_1 := hcell HB.out hx410_1
       replace p410 := eq_true p410
       replace q410 := eq_true q410
       go_wp2_with (first | ((with_reducible refine gate_dst (N := 5) rfl ?_); (try (refine gate_guard (by rfl) ?_; dsimp only)); refine box_event rfl (N := 5) rfl (cs := #[.int .i64 0, .string (⟨#[]⟩ : ByteArray)]) (t := 91) kG ?_; intro gb411 hg w38 hbox hb; have BK411 := As (hbox); have GW411 := As ((by rw [hg]; exact (below_size (kB1 HB.out GE408.out)) : w.heap.size ≤ gb411)); have GE411 := As ((by rw [hg]; exact (below_size (kB1 HB.out GE408.out)) : w.heap.size ≤ gb411)); replace HB := As (below_step (kB1 HB.out GE408.out) hb); have NB408_411 := As ((by rw [hg]; exact Nat.ne_of_lt (blk_lt (kb BK408.out)) : gb408 ≠ gb411)); have NB411_408 := As ((by rw [hg]; exact Nat.ne_of_gt (blk_lt (kb BK408.out)) : gb411 ≠ gb408)); replace BK408 := As (blk_below (kb BK408.out) hb); clear hb hbox hg; have hnb39 := NB411_408.out; have hnc39 := NB408_411.out; have hcz40_0 := cells_2 BK411.out; have hfz40_0 := fun j_ => blk_frozen BK411.out j_) | ((with_reducible refine gate_callee (f := 65) rfl ?_); refine goesL_ (some 32) rfl rfl Tryd.func65 (by kernel_rfl) rfl #[.int .i64 ((rd_T91 l0_10 x4_1).f0)] rfl kA ?_; (with_reducible refine (intrusionref12_extension.calls ((rd_T91 l0_10 x4_1).f0) true _ A13.out).mono ?_); rintro e w' ⟨rfl, ⟨nd, rfl⟩⟩; refine ⟨_, rfl, ?_⟩))
       go_ret2
       exact ⟨kE, by exact kB2 HB.out GE408.out GE411.out⟩
      rw [if_neg c36] at H
      have c36b0 : decide (2046 < (((rd_T91 l0_10 x4_1).f1).size : Int)) = false := decide_eq_false c36
      have c36b1 : decide (2046 < ((rd_T91 l0_10 x4_1).f1).size) = false := decide_eq_false (by omega)
      clear c36
      have H' := As H
      clear H
      have hcz41_0 := cells_16 BK408.out
      have hfz41_0 := fun j_ => blk_frozen BK408.out j_
      have p410 : 0 ≤ (x4_1 : Int) := of_decide_eq_true (by first | (with_reducible assumption) | assumption)
      have q410 : x4_1 < (l0_10.length : Int) := of_decide_eq_true (by first | (with_reducible assumption) | assumption)
      obtain ⟨ad410, e410, hx410_0, hx410_1⟩ := at_T91 HR0_10.out x4_1 p410 q410
      cases e410
      replace hx410_0 := hcell HB.out hx410_0
      replace hx410_1 := hcell HB.out hx410_1
      replace p410 := eq_true p410
      replace q410 := eq_true q410
      go_wp2_with (first | ((with_reducible refine gate_dst (N := 5) rfl ?_); (try (refine gate_guard (by rfl) ?_; dsimp only)); refine box_event rfl (N := 5) rfl (cs := #[.int .i64 0, .string (⟨#[]⟩ : ByteArray)]) (t := 91) kG ?_; intro gb411 hg w42 hbox hb; have BK411 := As (hbox); have GW411 := As ((by rw [hg]; exact (below_size (kB1 HB.out GE408.out)) : w.heap.size ≤ gb411)); have GE411 := As ((by rw [hg]; exact (below_size (kB1 HB.out GE408.out)) : w.heap.size ≤ gb411)); replace HB := As (below_step (kB1 HB.out GE408.out) hb); have NB408_411 := As ((by rw [hg]; exact Nat.ne_of_lt (blk_lt (kb BK408.out)) : gb408 ≠ gb411)); have NB411_408 := As ((by rw [hg]; exact Nat.ne_of_gt (blk_lt (kb BK408.out)) : gb411 ≠ gb408)); replace BK408 := As (blk_below (kb BK408.out) hb); clear hb hbox hg; have hnb43 := NB411_408.out; have hnc43 := NB408_411.out; have hcz44_0 := cells_2 BK411.out; have hfz44_0 := fun j_ => blk_frozen BK411.out j_) | ((with_reducible refine gate_callee (f := 65) rfl ?_); refine goesL_ (some 32) rfl rfl Tryd.func65 (by kernel_rfl) rfl #[.int .i64 ((rd_T91 l0_10 x4_1).f0)] rfl kA ?_; (with_reducible refine (intrusionref12_extension.calls ((rd_T91 l0_10 x4_1).f0) true _ A13.out).mono ?_); rintro e w' ⟨rfl, ⟨nd, rfl⟩⟩; refine ⟨_, rfl, ?_⟩))
      go_roundg k1
      case measure => have := HK1.out; omega
      case rel => exact ⟨(wrap64 (x4_1 + 1)), kS, H', ⟨by have := HK1.out; omega⟩, ⟨by refine kb ?_; refine blk_far ?_ NB408_411.out _; refine kb ?_; refine blk_far ?_ NB408_411.out _; exact kb BK408.out⟩, ⟨kB2 HB.out GE408.out GE411.out⟩⟩
     rw [if_neg c35] at H
     have c35b0 : (((((rd_T91 l0_10 x4_1).f1).size : Int) % 8) == 6) = false := beq_eq_false_iff_ne.mpr c35
     have c35b1 : (((((rd_T91 l0_10 x4_1).f1).size : Int) % 8) != 6) = true := bne_iff_ne.mpr c35
     simp only [Option.some.injEq, Prod.mk.injEq] at H
     obtain ⟨rfl, rfl⟩ := H
     have hcz45_0 := cells_16 BK408.out
     have hfz45_0 := fun j_ => blk_frozen BK408.out j_
     have p410 : 0 ≤ (x4_1 : Int) := of_decide_eq_true (by first | (with_reducible assumption) | assumption)
     have q410 : x4_1 < (l0_10.length : Int) := of_decide_eq_true (by first | (with_reducible assumption) | assumption)
     obtain ⟨ad410, e410, hx410_0, hx410_1⟩ := at_T91 HR0_10.out x4_1 p410 q410
     cases e410
     replace hx410_0 := hcell HB.out hx410_0
     replace hx410_1 := hcell HB.out hx410_1
     replace p410 := eq_true p410
     replace q410 := eq_true q410
     go_wp2_with (first | ((with_reducible refine gate_dst (N := 5) rfl ?_); (try (refine gate_guard (by rfl) ?_; dsimp only)); refine box_event rfl (N := 5) rfl (cs := #[.int .i64 0, .string (⟨#[]⟩ : ByteArray)]) (t := 91) kG ?_; intro gb411 hg w46 hbox hb; have BK411 := As (hbox); have GW411 := As ((by rw [hg]; exact (below_size (kB1 HB.out GE408.out)) : w.heap.size ≤ gb411)); have GE411 := As ((by rw [hg]; exact (below_size (kB1 HB.out GE408.out)) : w.heap.size ≤ gb411)); replace HB := As (below_step (kB1 HB.out GE408.out) hb); have NB408_411 := As ((by rw [hg]; exact Nat.ne_of_lt (blk_lt (kb BK408.out)) : gb408 ≠ gb411)); have NB411_408 := As ((by rw [hg]; exact Nat.ne_of_gt (blk_lt (kb BK408.out)) : gb411 ≠ gb408)); replace BK408 := As (blk_below (kb BK408.out) hb); clear hb hbox hg; have hnb47 := NB411_408.out; have hnc47 := NB408_411.out; have hcz48_0 := cells_2 BK411.out; have hfz48_0 := fun j_ => blk_frozen BK411.out j_) | ((with_reducible refine gate_callee (f := 65) rfl ?_); refine goesL_ (some 32) rfl rfl Tryd.func65 (by kernel_rfl) rfl #[.int .i64 ((rd_T91 l0_10 x4_1).f0)] rfl kA ?_; (with_reducible refine (intrusionref12_extension.calls ((rd_T91 l0_10 x4_1).f0) true _ A13.out).mono ?_); rintro e w' ⟨rfl, ⟨nd, rfl⟩⟩; refine ⟨_, rfl, ?_⟩))
     go_ret2
     exact ⟨kE, by exact kB2 HB.out GE408.out GE411.out⟩
    replace c14 := Bool.eq_false_iff.mpr c14
    subst c14
    rw [if_neg (show ¬ (false = true) by decide)] at H
    simp only [Option.some.injEq, Prod.mk.injEq] at H
    obtain ⟨rfl, rfl⟩ := H
    have hcz49_0 := cells_16 BK408.out
    have hfz49_0 := fun j_ => blk_frozen BK408.out j_
    have p410 : 0 ≤ (x4_1 : Int) := of_decide_eq_true (by first | (with_reducible assumption) | assumption)
    have q410 : x4_1 < (l0_10.length : Int) := of_decide_eq_true (by first | (with_reducible assumption) | assumption)
    obtain ⟨ad410, e410, hx410_0, hx410_1⟩ := at_T91 HR0_10.out x4_1 p410 q410
    cases e410
    replace hx410_0 := hcell HB.out hx410_0
    replace hx410_1 := hcell HB.out hx410_1
    replace p410 := eq_true p410
    replace q410 := eq_true q410
    go_wp2_with (first | ((with_reducible refine gate_dst (N := 5) rfl ?_); (try (refine gate_guard (by rfl) ?_; dsimp only)); refine box_event rfl (N := 5) rfl (cs := #[.int .i64 0, .string (⟨#[]⟩ : ByteArray)]) (t := 91) kG ?_; intro gb411 hg w50 hbox hb; have BK411 := As (hbox); have GW411 := As ((by rw [hg]; exact (below_size (kB1 HB.out GE408.out)) : w.heap.size ≤ gb411)); have GE411 := As ((by rw [hg]; exact (below_size (kB1 HB.out GE408.out)) : w.heap.size ≤ gb411)); replace HB := As (below_step (kB1 HB.out GE408.out) hb); have NB408_411 := As ((by rw [hg]; exact Nat.ne_of_lt (blk_lt (kb BK408.out)) : gb408 ≠ gb411)); have NB411_408 := As ((by rw [hg]; exact Nat.ne_of_gt (blk_lt (kb BK408.out)) : gb411 ≠ gb408)); replace BK408 := As (blk_below (kb BK408.out) hb); clear hb hbox hg; have hnb51 := NB411_408.out; have hnc51 := NB408_411.out; have hcz52_0 := cells_2 BK411.out; have hfz52_0 := fun j_ => blk_frozen BK411.out j_) | ((with_reducible refine gate_callee (f := 65) rfl ?_); refine goesL_ (some 32) rfl rfl Tryd.func65 (by kernel_rfl) rfl #[.int .i64 ((rd_T91 l0_10 x4_1).f0)] rfl kA ?_; (with_reducible refine (intrusionref12_extension.calls ((rd_T91 l0_10 x4_1).f0) false _ A13.out).mono ?_); rintro e w' ⟨rfl, ⟨nd, rfl⟩⟩; refine ⟨_, rfl, ?_⟩))
    go_ret2
    exact ⟨kE, by exact kB2 HB.out GE408.out GE411.out⟩
   rw [if_neg c11] at H
   have c11b0 : decide (x4_1 < (l0_10.length : Int)) = false := decide_eq_false c11
   clear c11
   by_cases c53 : (d15.size : Int) > 65535
   ·rw [if_pos c53] at H
    have c53b0 : decide (65535 < (d15.size : Int)) = true := decide_eq_true c53
    have c53b1 : decide (65535 < d15.size) = true := decide_eq_true (by omega)
    clear c53
    simp only [Option.some.injEq, Prod.mk.injEq] at H
    obtain ⟨rfl, rfl⟩ := H
    have hcz54_0 := cells_16 BK408.out
    have hfz54_0 := fun j_ => blk_frozen BK408.out j_
    go_wp2
    go_ret2
    exact ⟨kE, by exact kB1 HB.out GE408.out⟩
   rw [if_neg c53] at H
   have c53b0 : decide (65535 < (d15.size : Int)) = false := decide_eq_false c53
   have c53b1 : decide (65535 < d15.size) = false := decide_eq_false (by omega)
   clear c53
   have HC55 := As H
   clear H
   have hcz56_0 := cells_16 BK408.out
   have hfz56_0 := fun j_ => blk_frozen BK408.out j_
   go_upto_if 64 with (fail)
   go_cut [6, 7] (fun v6 v7 wc => ∃ (kq : Nat) (x6_54 : Int) (x7_54 : ByteArray), v6 = .int .i64 x6_54 ∧ v7 = .string x7_54 ∧ Aside0 (intrusionref12_Encode.j2 kq x6_54 x7_54 d0 d1 d2 d3 d4 d5 d6 d7 d8 d9 l0_10 d11 d12 d13 d14 d15 = some (r1, r2)) ∧ Aside0 (kq ≤ k1) ∧ Aside0 (wc.heap[gb408]? = some (.cells #[.int .i64 d0, .int .i64 d1, .int .i64 d2, .int .i64 d3, .bool d4, .int .u64 d5, .int .u64 d6, .bool d7, .int .u64 d8, .int .u64 d9, (.slice A0_10 l0_10.length c0_10), .bool d11, .int .i64 d12, .int .i64 d13, .bool d14, .string d15] 60 (0, 0))) ∧ Aside0 (Below w.heap.size w wc))
   case first =>
    have H := HC55.out
    clear HC55
    by_cases c57 : d11 = true
    ·subst c57
     rw [if_pos rfl] at H
     have HC58 := As H
     clear H
     have hcz59_0 := cells_16 BK408.out
     have hfz59_0 := fun j_ => blk_frozen BK408.out j_
     go_upto_if 66 with (fail)
     go_cut [8] (fun v8 wc => ∃ (kq : Nat) (x8_57 : Int), v8 = .int .i64 x8_57 ∧ Aside0 (intrusionref12_Encode.j1 kq d3 d15 x8_57 d0 d1 d2 d3 d4 d5 d6 d7 d8 d9 l0_10 true d12 d13 d14 d15 = some (r1, r2)) ∧ Aside0 (kq ≤ k1) ∧ Aside0 (wc.heap[gb408]? = some (.cells #[.int .i64 d0, .int .i64 d1, .int .i64 d2, .int .i64 d3, .bool d4, .int .u64 d5, .int .u64 d6, .bool d7, .int .u64 d8, .int .u64 d9, (.slice A0_10 l0_10.length c0_10), .bool true, .int .i64 d12, .int .i64 d13, .bool d14, .string d15] 60 (0, 0))) ∧ Aside0 (Below w.heap.size w wc))
     case first =>
      have H := HC58.out
      clear HC58
      by_cases c60 : d14 = true
      ·subst c60
       rw [if_pos rfl] at H
       have H' := As H
       clear H
       go_wp2
       go_meet
       case rel => exact ⟨_, (1), kS, H', ⟨by have := HK1.out; first | omega | exact Nat.le_refl _⟩, ⟨kb BK408.out⟩, ⟨kB1 HB.out GE408.out⟩⟩
      replace c60 := Bool.eq_false_iff.mpr c60
      subst c60
      rw [if_neg (show ¬ (false = true) by decide)] at H
      have H' := As H
      clear H
      go_wp2
      go_meet
      case rel => exact ⟨_, (0), kS, H', ⟨by have := HK1.out; first | omega | exact Nat.le_refl _⟩, ⟨kb BK408.out⟩, ⟨kB1 HB.out GE408.out⟩⟩
     clear HC58
     try clear c11
     try clear c11b0
     try clear c53
     try clear c53b0
     try clear c53b1
     try clear c57
     try clear hcz56_0
     try clear hcz59_0
     try clear hfz56_0
     try clear hfz59_0
     obtain ⟨kq, x8_57, rfl, HA, HJ57, BK408, HB⟩ := hcut
     cases kq with
     | zero => exact absurd HA.out (by simp [intrusionref12_Encode.j1])
     | succ kj57 =>
      have H := HA.out
      clear HA
      simp only [intrusionref12_Encode.j1] at H
      replace H := bS H
      obtain ⟨t413, A61, H⟩ := H
      replace H := bS H
      obtain ⟨t414, A62, H⟩ := H
      replace H := iS H
      obtain ⟨c63, H⟩ := H
      have c63b0 := eq_true c63
      have c63b1 := decide_eq_true c63
      try have c63b2 := eq_false (Nat.not_lt.2 c63)
      replace H := bS H
      obtain ⟨t415, A64, H⟩ := H
      replace H := iS H
      obtain ⟨c65, H⟩ := H
      have c65b0 := eq_true c65
      have c65b1 := decide_eq_true c65
      try obtain ⟨c65s0, c65s1, c65s2⟩ := sz_ (a := (t413.size + t414.size) + t415.size) c65
      try have c65b2 := eq_false (Nat.not_lt.2 c65)
      replace H := bS H
      obtain ⟨t416, A66, H⟩ := H
      replace H := iS H
      obtain ⟨c67, H⟩ := H
      have c67b0 := eq_true c67
      have c67b1 := decide_eq_true c67
      try obtain ⟨c67s0, c67s1, c67s2⟩ := sz_ (a := (t413.size + t414.size + t415.size) + t416.size) c67
      try have c67b2 := eq_false (Nat.not_lt.2 c67)
      replace H := iS H
      obtain ⟨c68, H⟩ := H
      have c68b0 := eq_true c68
      have c68b1 := decide_eq_true c68
      try obtain ⟨c68s0, c68s1, c68s2⟩ := sz_ (a := (t413.size + t414.size + t415.size + t416.size) + d15.size) c68
      try have c68b2 := eq_false (Nat.not_lt.2 c68)
      have H' := As H
      clear H
      try go_wp2
      replace BK408 := As (blk_drew BK408.out)
      replace HB := As (below_drew1 HB.out)
      refine start_ (n := 17) (S := fun w' => w'.cell? ⟨gb408, 0, none⟩ = some (.int .i64 d0) ∧ w'.cell? ⟨gb408, 1, none⟩ = some (.int .i64 d1) ∧ w'.cell? ⟨gb408, 2, none⟩ = some (.int .i64 d2) ∧ w'.cell? ⟨gb408, 3, none⟩ = some (.int .i64 d3) ∧ w'.cell? ⟨gb408, 4, none⟩ = some (.bool d4) ∧ w'.cell? ⟨gb408, 5, none⟩ = some (.int .u64 d5) ∧ w'.cell? ⟨gb408, 6, none⟩ = some (.int .u64 d6) ∧ w'.cell? ⟨gb408, 7, none⟩ = some (.bool d7) ∧ w'.cell? ⟨gb408, 8, none⟩ = some (.int .u64 d8) ∧ w'.cell? ⟨gb408, 9, none⟩ = some (.int .u64 d9) ∧ w'.cell? ⟨gb408, 10, none⟩ = some (.slice A0_10 l0_10.length c0_10) ∧ w'.cell? ⟨gb408, 11, none⟩ = some (.bool true) ∧ w'.cell? ⟨gb408, 12, none⟩ = some (.int .i64 d12) ∧ w'.cell? ⟨gb408, 13, none⟩ = some (.int .i64 d13) ∧ w'.cell? ⟨gb408, 14, none⟩ = some (.bool d14) ∧ w'.cell? ⟨gb408, 15, none⟩ = some (.string d15)) (ds := []) #[O, O, O, O, O, O, O, O, O, O, O, O, O, O, O, O, O] (by kernel_rfl) rfl rfl ⟨kC BK408.out 0, kC BK408.out 1, kC BK408.out 2, kC BK408.out 3, kC BK408.out 4, kC BK408.out 5, kC BK408.out 6, kC BK408.out 7, kC BK408.out 8, kC BK408.out 9, kC BK408.out 10, kC BK408.out 11, kC BK408.out 12, kC BK408.out 13, kC BK408.out 14, kC BK408.out 15⟩ (fun hHeld => ?_); refine with_tabW intrusionref12_Encode.tab19 intrusionref12_Encode.bits19 (fun HT_ HW_ => ?_)
      generalize wc.drew = w69 at BK408 HB hHeld ⊢
      refine kP 0 67 #[I, O, O, O, O, O, O, O, O, O, O, O, O, O, O, O, O] ?_ (any_of HT_.out (by kernel_rfl))
      refine kP 4 71 #[I, O, O, O, I, O, O, O, O, O, O, O, O, O, O, O, O] ?_ (any_of HT_.out (by kernel_rfl))
      refine kP 6 73 #[I, O, O, O, I, O, I, O, O, O, O, O, O, O, O, O, O] ?_ (any_of HT_.out (by kernel_rfl))
      refine kP 10 77 #[I, O, O, O, I, O, I, O, O, O, I, O, O, O, O, O, O] ?_ (any_of HT_.out (by kernel_rfl))
      refine kP 14 81 #[I, O, O, O, I, O, I, O, O, O, I, O, O, O, I, O, O] ?_ (any_of HT_.out (by kernel_rfl))
      refine take_ (i := 5) (N := some 72) (v := ?_) (a' := ?_) #[I, O, O, O, I, I, I, O, O, O, I, O, O, O, I, O, O] rfl rfl (take_ofW HT_.out HW_.out (by kernel_rfl)) (fun _ _ _ h => h) (Or.inl ⟨by rfl, ?_⟩) hHeld ?_ ?_
      rotate_left
      ·rintro w' ⟨s0, s1, s2, s3, s4, s5, s6, s7, s8, s9, s10, s11, s12, s13, s14, s15⟩
       go_simp
       with_reducible rfl
      rotate_left
      ·simp only [Act.put, sA, sZ, sS, i64_w, i32_w]
       rfl
      refine kP 7 74 #[I, O, O, O, I, I, I, I, O, O, I, O, O, O, I, O, O] ?_ (any_of HT_.out (by kernel_rfl))
      refine take_ (i := 11) (N := some 78) (v := ?_) (a' := ?_) #[I, O, O, O, I, I, I, I, O, O, I, I, O, O, I, O, O] rfl rfl (take_ofW HT_.out HW_.out (by kernel_rfl)) (fun _ _ _ h => h) (Or.inl ⟨by rfl, ?_⟩) hHeld ?_ ?_
      rotate_left
      ·rintro w' ⟨s0, s1, s2, s3, s4, s5, s6, s7, s8, s9, s10, s11, s12, s13, s14, s15⟩
       go_simp
       with_reducible rfl
      rotate_left
      ·simp only [Act.put, sA, sZ, sS, i64_w, i32_w]
       rfl
      refine one_ (i := 1) (N := some 68) #[I, I, O, O, I, I, I, I, O, O, I, I, O, O, I, O, O] rfl rfl (one_of HT_.out (by kernel_rfl)) (by decide) (fun K hK => ?_)
      refine goes_ Tryd.func66 (by kernel_rfl) rfl #[.int .i64 d3, .int .i64 1] (by rfl) rfl rfl kA ?_
      with_reducible refine (intrusionref12_put.calls kj57 d3 1 t413 _ A61.out).mono ?_
      rintro e w70 ⟨rfl, hb⟩
      refine ⟨_, rfl, ?_⟩
      replace BK408 := As (blk_below (kb BK408.out) hb)
      replace HB := As (below_step (kB1 HB.out GE408.out) hb)
      (try clear hb)
      (try clear hb2)
      (try clear hk)
      (try clear hi)
      refine hK.out _ _ ⟨kC BK408.out 0, kC BK408.out 1, kC BK408.out 2, kC BK408.out 3, kC BK408.out 4, kC BK408.out 5, kC BK408.out 6, kC BK408.out 7, kC BK408.out 8, kC BK408.out 9, kC BK408.out 10, kC BK408.out 11, kC BK408.out 12, kC BK408.out 13, kC BK408.out 14, kC BK408.out 15⟩ (fun hHeld => ?_)
      clear hK K
      refine nP ?_
      refine one_ (i := 2) (N := some 69) #[I, I, I, O, I, I, I, I, O, O, I, I, O, O, I, O, O] rfl rfl (one_of HT_.out (by kernel_rfl)) (by decide) (fun K hK => ?_)
      refine goes_ Tryd.func66 (by kernel_rfl) rfl #[.int .i64 0, .int .i64 1] (by rfl) rfl rfl kA ?_
      with_reducible refine (intrusionref12_put.calls kj57 0 1 t414 _ A62.out).mono ?_
      rintro e w71 ⟨rfl, hb⟩
      refine ⟨_, rfl, ?_⟩
      replace BK408 := As (blk_below (kb BK408.out) hb)
      replace HB := As (below_step (kB1 HB.out GE408.out) hb)
      (try clear hb)
      (try clear hb2)
      (try clear hk)
      (try clear hi)
      refine hK.out _ _ ⟨kC BK408.out 0, kC BK408.out 1, kC BK408.out 2, kC BK408.out 3, kC BK408.out 4, kC BK408.out 5, kC BK408.out 6, kC BK408.out 7, kC BK408.out 8, kC BK408.out 9, kC BK408.out 10, kC BK408.out 11, kC BK408.out 12, kC BK408.out 13, kC BK408.out 14, kC BK408.out 15⟩ (fun hHeld => ?_)
      clear hK K
      refine nP ?_
      refine kP 3 70 #[I, I, I, I, I, I, I, I, O, O, I, I, O, O, I, O, O] ?_ (any_of HT_.out (by kernel_rfl))
      refine one_ (i := 8) (N := some 75) #[I, I, I, I, I, I, I, I, I, O, I, I, O, O, I, O, O] rfl rfl (one_of HT_.out (by kernel_rfl)) (by decide) (fun K hK => ?_)
      refine goes_ Tryd.func66 (by kernel_rfl) rfl #[.int .i64 (wrap64 (d13 + x8_57)), .int .i64 2] (by rfl) rfl rfl kA ?_
      with_reducible refine (intrusionref12_put.calls kj57 (wrap64 (d13 + x8_57)) 2 t415 _ A64.out).mono ?_
      rintro e w72 ⟨rfl, hb⟩
      refine ⟨_, rfl, ?_⟩
      replace BK408 := As (blk_below (kb BK408.out) hb)
      replace HB := As (below_step (kB1 HB.out GE408.out) hb)
      (try clear hb)
      (try clear hb2)
      (try clear hk)
      (try clear hi)
      refine hK.out _ _ ⟨kC BK408.out 0, kC BK408.out 1, kC BK408.out 2, kC BK408.out 3, kC BK408.out 4, kC BK408.out 5, kC BK408.out 6, kC BK408.out 7, kC BK408.out 8, kC BK408.out 9, kC BK408.out 10, kC BK408.out 11, kC BK408.out 12, kC BK408.out 13, kC BK408.out 14, kC BK408.out 15⟩ (fun hHeld => ?_)
      clear hK K
      refine nP ?_
      refine kP 9 76 #[I, I, I, I, I, I, I, I, I, I, I, I, O, O, I, O, O] ?_ (any_of HT_.out (by kernel_rfl))
      refine one_ (i := 12) (N := some 79) #[I, I, I, I, I, I, I, I, I, I, I, I, I, O, I, O, O] rfl rfl (one_of HT_.out (by kernel_rfl)) (by decide) (fun K hK => ?_)
      refine goes_ Tryd.func66 (by kernel_rfl) rfl #[.int .i64 d12, .int .i64 4] (by rfl) rfl rfl kA ?_
      with_reducible refine (intrusionref12_put.calls kj57 d12 4 t416 _ A66.out).mono ?_
      rintro e w73 ⟨rfl, hb⟩
      refine ⟨_, rfl, ?_⟩
      replace BK408 := As (blk_below (kb BK408.out) hb)
      replace HB := As (below_step (kB1 HB.out GE408.out) hb)
      (try clear hb)
      (try clear hb2)
      (try clear hk)
      (try clear hi)
      refine hK.out _ _ ⟨kC BK408.out 0, kC BK408.out 1, kC BK408.out 2, kC BK408.out 3, kC BK408.out 4, kC BK408.out 5, kC BK408.out 6, kC BK408.out 7, kC BK408.out 8, kC BK408.out 9, kC BK408.out 10, kC BK408.out 11, kC BK408.out 12, kC BK408.out 13, kC BK408.out 14, kC BK408.out 15⟩ (fun hHeld => ?_)
      clear hK K
      refine nP ?_
      refine kP 13 80 #[I, I, I, I, I, I, I, I, I, I, I, I, I, I, I, O, O] ?_ (any_of HT_.out (by kernel_rfl))
      refine kP 15 82 #[I, I, I, I, I, I, I, I, I, I, I, I, I, I, I, I, O] ?_ (any_of HT_.out (by kernel_rfl))
      refine kP 16 7 #[I, I, I, I, I, I, I, I, I, I, I, I, I, I, I, I, I] ?_ (any_of HT_.out (by kernel_rfl))
      refine done_ (done_of HT_.out (by kernel_rfl)) ?_
      try go_wp2
      go_meet
      case rel => exact ⟨_, (44), ((((t413 ++ t414) ++ t415) ++ t416) ++ d15), kS, kS, H', ⟨by have := HK1.out; have := HJ57.out; first | omega | exact Nat.le_refl _⟩, ⟨kb BK408.out⟩, ⟨kB1 HB.out GE408.out⟩⟩
    replace c57 := Bool.eq_false_iff.mpr c57
    subst c57
    rw [if_neg (show ¬ (false = true) by decide)] at H
    have H' := As H
    clear H
    go_wp2
    go_meet
    case rel => exact ⟨_, (d3), (d15), kS, kS, H', ⟨by have := HK1.out; first | omega | exact Nat.le_refl _⟩, ⟨kb BK408.out⟩, ⟨kB1 HB.out GE408.out⟩⟩
   clear HC55
   try clear c11
   try clear c11b0
   try clear c53
   try clear c53b0
   try clear c53b1
   try clear hcz56_0
   try clear hfz56_0
   obtain ⟨kq, x6_54, x7_54, rfl, rfl, HA, HJ54, BK408, HB⟩ := hcut
   cases kq with
   | zero => exact absurd HA.out (by simp [intrusionref12_Encode.j2])
   | succ kj54 =>
    have H := HA.out
    clear HA
    simp only [intrusionref12_Encode.j2] at H
    have H' := As H
    clear H
    have hcz74_0 := cells_16 BK408.out
    have hfz74_0 := fun j_ => blk_frozen BK408.out j_
    go_wp2
    go_loopg [6, 7, 9] kj54 (fun kq v6 v7 v9 w' => ∃ (x6_3 : Int) (x7_3 : ByteArray) (x9_3 : Int), v6 = .int .i64 x6_3 ∧ v7 = .string x7_3 ∧ v9 = .int .i64 x9_3 ∧ Aside0 (intrusionref12_Encode.l1 kq x6_3 x7_3 x9_3 d0 d1 d2 d3 d4 d5 d6 d7 d8 d9 l0_10 d11 d12 d13 d14 d15 = some (r1, r2)) ∧ Aside0 (kq ≤ kj54) ∧ Aside0 (w'.heap[gb408]? = some (.cells #[.int .i64 d0, .int .i64 d1, .int .i64 d2, .int .i64 d3, .bool d4, .int .u64 d5, .int .u64 d6, .bool d7, .int .u64 d8, .int .u64 d9, (.slice A0_10 l0_10.length c0_10), .bool d11, .int .i64 d12, .int .i64 d13, .bool d14, .string d15] 60 (0, 0))) ∧ Aside0 (Below w.heap.size w w'))
    case atStart => exact ⟨(x6_54), (x7_54), (wrap64 ((l0_10.length : Int) - 1)), kS, kS, kS, H', ⟨Nat.le_refl _⟩, ⟨kb BK408.out⟩, ⟨kB1 HB.out GE408.out⟩⟩
    clear H'
    try clear hcz74_0
    try clear hfz74_0
    obtain ⟨x6_3, x7_3, x9_3, rfl, rfl, rfl, HA, HK3, BK408, HB⟩ := hrel
    cases gk with
    | zero => exact absurd HA.out (by simp [intrusionref12_Encode.l1])
    | succ k3 =>
     have H := HA.out
     clear HA
     simp only [intrusionref12_Encode.l1] at H
     by_cases c75 : x9_3 ≥ 0
     ·rw [if_pos c75] at H
      have c75b0 : decide (0 ≤ x9_3) = true := decide_eq_true c75
      clear c75
      replace H := iS H
      obtain ⟨c76, H⟩ := H
      have c76b0 := decide_eq_true c76
      clear c76
      replace H := iS H
      obtain ⟨c77, H⟩ := H
      have c77b0 := decide_eq_true c77
      clear c77
      replace H := bS H
      obtain ⟨t419, A78, H⟩ := H
      replace H := bS H
      obtain ⟨t420, A79, H⟩ := H
      replace H := iS H
      obtain ⟨c80, H⟩ := H
      have c80b0 := eq_true c80
      have c80b1 := decide_eq_true c80
      try have c80b2 := eq_false (Nat.not_lt.2 c80)
      replace H := iS H
      obtain ⟨c81, H⟩ := H
      have c81b0 := eq_true c81
      have c81b1 := decide_eq_true c81
      try obtain ⟨c81s0, c81s1, c81s2⟩ := sz_ (a := (t419.size + t420.size) + ((rd_T91 l0_10 x9_3).f1).size) c81
      try have c81b2 := eq_false (Nat.not_lt.2 c81)
      replace H := iS H
      obtain ⟨c82, H⟩ := H
      have c82b0 := eq_true c82
      have c82b1 := decide_eq_true c82
      try obtain ⟨c82s0, c82s1, c82s2⟩ := sz_ (a := (t419.size + t420.size + ((rd_T91 l0_10 x9_3).f1).size) + x7_3.size) c82
      try have c82b2 := eq_false (Nat.not_lt.2 c82)
      have H' := As H
      clear H
      have hcz83_0 := cells_16 BK408.out
      have hfz83_0 := fun j_ => blk_frozen BK408.out j_
      have p417 : 0 ≤ (x9_3 : Int) := of_decide_eq_true (by first | (with_reducible assumption) | assumption)
      have q417 : x9_3 < (l0_10.length : Int) := of_decide_eq_true (by first | (with_reducible assumption) | assumption)
      obtain ⟨ad417, e417, hx417_0, hx417_1⟩ := at_T91 HR0_10.out x9_3 p417 q417
      cases e417
      replace hx417_0 := hcell HB.out hx417_0
      replace hx417_1 := hcell HB.out hx417_1
      replace p417 := eq_true p417
      replace q417 := eq_true q417
      try go_wp2_with (first | ((with_reducible refine gate_dst (N := 10) rfl ?_); (try (refine gate_guard (by rfl) ?_; dsimp only)); refine box_event rfl (N := 10) rfl (cs := #[.int .i64 0, .string (⟨#[]⟩ : ByteArray)]) (t := 91) kG ?_; intro gb418 hg w84 hbox hb; have BK418 := As (hbox); have GW418 := As ((by rw [hg]; exact (below_size (kB1 HB.out GE408.out)) : w.heap.size ≤ gb418)); have GE418 := As ((by rw [hg]; exact (below_size (kB1 HB.out GE408.out)) : w.heap.size ≤ gb418)); replace HB := As (below_step (kB1 HB.out GE408.out) hb); have NB408_418 := As ((by rw [hg]; exact Nat.ne_of_lt (blk_lt (kb BK408.out)) : gb408 ≠ gb418)); have NB418_408 := As ((by rw [hg]; exact Nat.ne_of_gt (blk_lt (kb BK408.out)) : gb418 ≠ gb408)); replace BK408 := As (blk_below (kb BK408.out) hb); clear hb hbox hg; have hnb85 := NB418_408.out; have hnc85 := NB408_418.out; have hcz86_0 := cells_2 BK418.out; have hfz86_0 := fun j_ => blk_frozen BK418.out j_))
      have n0_ : Aside0 (((w84.setCell ⟨gb418, 0, none⟩ (.int .i64 ((rd_T91 l0_10 x9_3).f0))).setCell ⟨gb418, 1, none⟩ (.string ((rd_T91 l0_10 x9_3).f1))).heap[gb408]? = some (.cells #[.int .i64 d0, .int .i64 d1, .int .i64 d2, .int .i64 d3, .bool d4, .int .u64 d5, .int .u64 d6, .bool d7, .int .u64 d8, .int .u64 d9, .slice (some ad417) l0_10.length c0_10, .bool d11, .int .i64 d12, .int .i64 d13, .bool d14, .string d15] 60 (0, 0))) := ⟨by refine kb ?_; refine blk_far ?_ NB408_418.out _; refine kb ?_; refine blk_far ?_ NB408_418.out _; exact kb BK408.out⟩
      have n1_ : Aside0 (((w84.setCell ⟨gb418, 0, none⟩ (.int .i64 ((rd_T91 l0_10 x9_3).f0))).setCell ⟨gb418, 1, none⟩ (.string ((rd_T91 l0_10 x9_3).f1))).heap[gb418]? = some (.cells #[.int .i64 ((rd_T91 l0_10 x9_3).f0), .string ((rd_T91 l0_10 x9_3).f1)] 91 (0, 0))) := ⟨by refine kb ?_; refine blk_put (cs := #[.int .i64 ((rd_T91 l0_10 x9_3).f0), .string (⟨#[]⟩ : ByteArray)]) ?_ 1 _ rfl; refine kb ?_; refine blk_put (cs := #[.int .i64 0, .string (⟨#[]⟩ : ByteArray)]) ?_ 0 _ rfl; exact kb BK418.out⟩
      have n2_ : Aside0 (Below w.heap.size w ((w84.setCell ⟨gb418, 0, none⟩ (.int .i64 ((rd_T91 l0_10 x9_3).f0))).setCell ⟨gb418, 1, none⟩ (.string ((rd_T91 l0_10 x9_3).f1)))) := ⟨kB2 HB.out GE408.out GE418.out⟩
      (try clear BK408)
      (try clear BK418)
      (try clear HB)
      generalize ((w84.setCell ⟨gb418, 0, none⟩ (.int .i64 ((rd_T91 l0_10 x9_3).f0))).setCell ⟨gb418, 1, none⟩ (.string ((rd_T91 l0_10 x9_3).f1))) = w87 at n0_ n1_ n2_ ⊢
      have BK408 := n0_
      have BK418 := n1_
      have HB := n2_
      clear n0_ n1_ n2_
      replace BK408 := As (blk_drew BK408.out)
      replace BK418 := As (blk_drew BK418.out)
      replace HB := As (below_drew1 HB.out)
      refine start_ (n := 15) (S := fun w' => w'.cell? ⟨gb418, 0, none⟩ = some (.int .i64 ((rd_T91 l0_10 x9_3).f0)) ∧ w'.cell? ⟨gb418, 1, none⟩ = some (.string ((rd_T91 l0_10 x9_3).f1))) (ds := []) #[O, O, O, O, O, O, O, O, O, O, O, O, O, O, O] (by kernel_rfl) rfl rfl ⟨kC BK418.out 0, kC BK418.out 1⟩ (fun hHeld => ?_); refine with_tabW intrusionref12_Encode.tab25 intrusionref12_Encode.bits25 (fun HT_ HW_ => ?_)
      generalize w87.drew = w88 at BK408 BK418 HB hHeld ⊢
      refine kP 0 96 #[I, O, O, O, O, O, O, O, O, O, O, O, O, O, O] ?_ (any_of HT_.out (by kernel_rfl))
      refine kP 2 98 #[I, O, I, O, O, O, O, O, O, O, O, O, O, O, O] ?_ (any_of HT_.out (by kernel_rfl))
      refine kP 9 105 #[I, O, I, O, O, O, O, O, O, I, O, O, O, O, O] ?_ (any_of HT_.out (by kernel_rfl))
      refine kP 12 108 #[I, O, I, O, O, O, O, O, O, I, O, O, I, O, O] ?_ (any_of HT_.out (by kernel_rfl))
      refine take_ (i := 3) (N := some 99) (v := ?_) (a' := ?_) #[I, O, I, I, O, O, O, O, O, I, O, O, I, O, O] rfl rfl (take_ofW HT_.out HW_.out (by kernel_rfl)) (fun _ _ _ h => h) (Or.inl ⟨by rfl, ?_⟩) hHeld ?_ ?_
      rotate_left
      ·rintro w' ⟨s0, s1⟩
       go_simp
       with_reducible rfl
      rotate_left
      ·simp only [Act.put, sA, sZ, sS, i64_w, i32_w]
       rfl
      refine kP 4 100 #[I, O, I, I, I, O, O, O, O, I, O, O, I, O, O] ?_ (any_of HT_.out (by kernel_rfl))
      refine kP 5 101 #[I, O, I, I, I, I, O, O, O, I, O, O, I, O, O] ?_ (any_of HT_.out (by kernel_rfl))
      refine kP 6 102 #[I, O, I, I, I, I, I, O, O, I, O, O, I, O, O] ?_ (any_of HT_.out (by kernel_rfl))
      refine take_ (i := 10) (N := some 106) (v := ?_) (a' := ?_) #[I, O, I, I, I, I, I, O, O, I, I, O, I, O, O] rfl rfl (take_ofW HT_.out HW_.out (by kernel_rfl)) (fun _ _ _ h => h) (Or.inl ⟨by rfl, ?_⟩) hHeld ?_ ?_
      rotate_left
      ·rintro w' ⟨s0, s1⟩
       go_simp
       with_reducible rfl
      rotate_left
      ·simp only [Act.put, sA, sZ, sS, i64_w, i32_w]
       rfl
      refine one_ (i := 1) (N := some 97) #[I, I, I, I, I, I, I, O, O, I, I, O, I, O, O] rfl rfl (one_of HT_.out (by kernel_rfl)) (by decide) (fun K hK => ?_)
      refine goes_ Tryd.func66 (by kernel_rfl) rfl #[.int .i64 x6_3, .int .i64 1] (by rfl) rfl rfl kA ?_
      with_reducible refine (intrusionref12_put.calls k3 x6_3 1 t419 _ A78.out).mono ?_
      rintro e w89 ⟨rfl, hb⟩
      refine ⟨_, rfl, ?_⟩
      replace BK408 := As (blk_below (kb BK408.out) hb)
      replace BK418 := As (blk_below (kb BK418.out) hb)
      replace HB := As (below_step (kB2 HB.out GE408.out GE418.out) hb)
      (try clear hb)
      (try clear hb2)
      (try clear hk)
      (try clear hi)
      refine hK.out _ _ ⟨kC BK418.out 0, kC BK418.out 1⟩ (fun hHeld => ?_)
      clear hK K
      refine nP ?_
      refine one_ (i := 7) (N := some 103) #[I, I, I, I, I, I, I, I, O, I, I, O, I, O, O] rfl rfl (one_of HT_.out (by kernel_rfl)) (by decide) (fun K hK => ?_)
      refine goes_ Tryd.func66 (by kernel_rfl) rfl #[.int .i64 (wrap64 (Int.tdiv (wrap64 ((((rd_T91 l0_10 x9_3).f1).size : Int) - 6)) 8)), .int .i64 1] (by rfl) rfl rfl kA ?_
      with_reducible refine (intrusionref12_put.calls k3 (wrap64 (Int.tdiv (wrap64 ((((rd_T91 l0_10 x9_3).f1).size : Int) - 6)) 8)) 1 t420 _ A79.out).mono ?_
      rintro e w90 ⟨rfl, hb⟩
      refine ⟨_, rfl, ?_⟩
      replace BK408 := As (blk_below (kb BK408.out) hb)
      replace BK418 := As (blk_below (kb BK418.out) hb)
      replace HB := As (below_step (kB2 HB.out GE408.out GE418.out) hb)
      (try clear hb)
      (try clear hb2)
      (try clear hk)
      (try clear hi)
      refine hK.out _ _ ⟨kC BK418.out 0, kC BK418.out 1⟩ (fun hHeld => ?_)
      clear hK K
      refine nP ?_
      refine kP 8 104 #[I, I, I, I, I, I, I, I, I, I, I, O, I, O, O] ?_ (any_of HT_.out (by kernel_rfl))
      refine kP 11 107 #[I, I, I, I, I, I, I, I, I, I, I, I, I, O, O] ?_ (any_of HT_.out (by kernel_rfl))
      refine kP 13 109 #[I, I, I, I, I, I, I, I, I, I, I, I, I, I, O] ?_ (any_of HT_.out (by kernel_rfl))
      refine kP 14 7 #[I, I, I, I, I, I, I, I, I, I, I, I, I, I, I] ?_ (any_of HT_.out (by kernel_rfl))
      refine done_ (done_of HT_.out (by kernel_rfl)) ?_
      have hcz91_0 := cells_2 BK418.out
      have hfz91_0 := fun j_ => blk_frozen BK418.out j_
      try go_wp2
      go_roundg k3
      case measure => have := HK1.out; have := HJ54.out; have := HK3.out; omega
      case rel => exact ⟨((rd_T91 l0_10 x9_3).f0), (((t419 ++ t420) ++ ((rd_T91 l0_10 x9_3).f1)) ++ x7_3), (wrap64 (x9_3 - 1)), kS, kS, kS, H', ⟨by have := HK1.out; have := HJ54.out; have := HK3.out; omega⟩, ⟨kb BK408.out⟩, ⟨kB2 HB.out GE408.out GE418.out⟩⟩
     rw [if_neg c75] at H
     have c75b0 : decide (0 ≤ x9_3) = false := decide_eq_false c75
     clear c75
     by_cases c92 : (x7_3.size : Int) > 65535
     ·rw [if_pos c92] at H
      have c92b0 : decide (65535 < (x7_3.size : Int)) = true := decide_eq_true c92
      have c92b1 : decide (65535 < x7_3.size) = true := decide_eq_true (by omega)
      clear c92
      simp only [Option.some.injEq, Prod.mk.injEq] at H
      obtain ⟨rfl, rfl⟩ := H
      go_wp2
      go_ret2
      exact ⟨kE, by exact kB1 HB.out GE408.out⟩
     rw [if_neg c92] at H
     have c92b0 : decide (65535 < (x7_3.size : Int)) = false := decide_eq_false c92
     have c92b1 : decide (65535 < x7_3.size) = false := decide_eq_false (by omega)
     clear c92
     replace H := bS H
     obtain ⟨t421, A93, H⟩ := H
     replace H := bS H
     obtain ⟨t422, A94, H⟩ := H
     replace H := iS H
     obtain ⟨c95, H⟩ := H
     have c95b0 := eq_true c95
     have c95b1 := decide_eq_true c95
     try have c95b2 := eq_false (Nat.not_lt.2 c95)
     replace H := bS H
     obtain ⟨t423, A96, H⟩ := H
     replace H := iS H
     obtain ⟨c97, H⟩ := H
     have c97b0 := eq_true c97
     have c97b1 := decide_eq_true c97
     try obtain ⟨c97s0, c97s1, c97s2⟩ := sz_ (a := (t421.size + t422.size) + t423.size) c97
     try have c97b2 := eq_false (Nat.not_lt.2 c97)
     replace H := bS H
     obtain ⟨t424, A98, H⟩ := H
     replace H := iS H
     obtain ⟨c99, H⟩ := H
     have c99b0 := eq_true c99
     have c99b1 := decide_eq_true c99
     try obtain ⟨c99s0, c99s1, c99s2⟩ := sz_ (a := (t421.size + t422.size + t423.size) + t424.size) c99
     try have c99b2 := eq_false (Nat.not_lt.2 c99)
     replace H := bS H
     obtain ⟨t425, A100, H⟩ := H
     replace H := iS H
     obtain ⟨c101, H⟩ := H
     have c101b0 := eq_true c101
     have c101b1 := decide_eq_true c101
     try obtain ⟨c101s0, c101s1, c101s2⟩ := sz_ (a := (t421.size + t422.size + t423.size + t424.size) + t425.size) c101
     try have c101b2 := eq_false (Nat.not_lt.2 c101)
     replace H := bS H
     obtain ⟨t426, A102, H⟩ := H
     replace H := iS H
     obtain ⟨c103, H⟩ := H
     have c103b0 := eq_true c103
     have c103b1 := decide_eq_true c103
     try obtain ⟨c103s0, c103s1, c103s2⟩ := sz_ (a := (t421.size + t422.size + t423.size + t424.size + t425.size) + t426.size) c103
     try have c103b2 := eq_false (Nat.not_lt.2 c103)
     replace H := iS H
     obtain ⟨c104, H⟩ := H
     have c104b0 := eq_true c104
     have c104b1 := decide_eq_true c104
     try obtain ⟨c104s0, c104s1, c104s2⟩ := sz_ (a := (t421.size + t422.size + t423.size + t424.size + t425.size + t426.size) + x7_3.size) c104
     try have c104b2 := eq_false (Nat.not_lt.2 c104)
     simp only [Option.some.injEq, Prod.mk.injEq] at H
     obtain ⟨rfl, rfl⟩ := H
     try go_wp2
     replace BK408 := As (blk_drew BK408.out)
     replace HB := As (below_drew1 HB.out)
     refine start_ (n := 31) (S := fun w' => w'.cell? ⟨gb408, 0, none⟩ = some (.int .i64 d0) ∧ w'.cell? ⟨gb408, 1, none⟩ = some (.int .i64 d1) ∧ w'.cell? ⟨gb408, 2, none⟩ = some (.int .i64 d2) ∧ w'.cell? ⟨gb408, 3, none⟩ = some (.int .i64 d3) ∧ w'.cell? ⟨gb408, 4, none⟩ = some (.bool d4) ∧ w'.cell? ⟨gb408, 5, none⟩ = some (.int .u64 d5) ∧ w'.cell? ⟨gb408, 6, none⟩ = some (.int .u64 d6) ∧ w'.cell? ⟨gb408, 7, none⟩ = some (.bool d7) ∧ w'.cell? ⟨gb408, 8, none⟩ = some (.int .u64 d8) ∧ w'.cell? ⟨gb408, 9, none⟩ = some (.int .u64 d9) ∧ w'.cell? ⟨gb408, 10, none⟩ = some (.slice A0_10 l0_10.length c0_10) ∧ w'.cell? ⟨gb408, 11, none⟩ = some (.bool d11) ∧ w'.cell? ⟨gb408, 12, none⟩ = some (.int .i64 d12) ∧ w'.cell? ⟨gb408, 13, none⟩ = some (.int .i64 d13) ∧ w'.cell? ⟨gb408, 14, none⟩ = some (.bool d14) ∧ w'.cell? ⟨gb408, 15, none⟩ = some (.string d15)) (ds := []) #[O, O, O, O, O, O, O, O, O, O, O, O, O, O, O, O, O, O, O, O, O, O, O, O, O, O, O, O, O, O, O] (by kernel_rfl) rfl rfl ⟨kC BK408.out 0, kC BK408.out 1, kC BK408.out 2, kC BK408.out 3, kC BK408.out 4, kC BK408.out 5, kC BK408.out 6, kC BK408.out 7, kC BK408.out 8, kC BK408.out 9, kC BK408.out 10, kC BK408.out 11, kC BK408.out 12, kC BK408.out 13, kC BK408.out 14, kC BK408.out 15⟩ (fun hHeld => ?_); refine with_tabW intrusionref12_Encode.tab29 intrusionref12_Encode.bits29 (fun HT_ HW_ => ?_)
     generalize wr.drew = w105 at BK408 HB hHeld ⊢
     refine kP 0 115 #[I, O, O, O, O, O, O, O, O, O, O, O, O, O, O, O, O, O, O, O, O, O, O, O, O, O, O, O, O, O, O] ?_ (any_of HT_.out (by kernel_rfl))
     refine kP 4 119 #[I, O, O, O, I, O, O, O, O, O, O, O, O, O, O, O, O, O, O, O, O, O, O, O, O, O, O, O, O, O, O] ?_ (any_of HT_.out (by kernel_rfl))
     refine kP 8 123 #[I, O, O, O, I, O, O, O, I, O, O, O, O, O, O, O, O, O, O, O, O, O, O, O, O, O, O, O, O, O, O] ?_ (any_of HT_.out (by kernel_rfl))
     refine kP 9 124 #[I, O, O, O, I, O, O, O, I, I, O, O, O, O, O, O, O, O, O, O, O, O, O, O, O, O, O, O, O, O, O] ?_ (any_of HT_.out (by kernel_rfl))
     refine kP 12 127 #[I, O, O, O, I, O, O, O, I, I, O, O, I, O, O, O, O, O, O, O, O, O, O, O, O, O, O, O, O, O, O] ?_ (any_of HT_.out (by kernel_rfl))
     refine kP 15 130 #[I, O, O, O, I, O, O, O, I, I, O, O, I, O, O, I, O, O, O, O, O, O, O, O, O, O, O, O, O, O, O] ?_ (any_of HT_.out (by kernel_rfl))
     refine kP 19 134 #[I, O, O, O, I, O, O, O, I, I, O, O, I, O, O, I, O, O, O, I, O, O, O, O, O, O, O, O, O, O, O] ?_ (any_of HT_.out (by kernel_rfl))
     refine kP 23 138 #[I, O, O, O, I, O, O, O, I, I, O, O, I, O, O, I, O, O, O, I, O, O, O, I, O, O, O, O, O, O, O] ?_ (any_of HT_.out (by kernel_rfl))
     refine kP 27 142 #[I, O, O, O, I, O, O, O, I, I, O, O, I, O, O, I, O, O, O, I, O, O, O, I, O, O, O, I, O, O, O] ?_ (any_of HT_.out (by kernel_rfl))
     refine take_ (i := 1) (N := some 116) (v := ?_) (a' := ?_) #[I, I, O, O, I, O, O, O, I, I, O, O, I, O, O, I, O, O, O, I, O, O, O, I, O, O, O, I, O, O, O] rfl rfl (take_ofW HT_.out HW_.out (by kernel_rfl)) (fun _ _ _ h => h) (Or.inl ⟨by rfl, ?_⟩) hHeld ?_ ?_
     rotate_left
     ·rintro w' ⟨s0, s1, s2, s3, s4, s5, s6, s7, s8, s9, s10, s11, s12, s13, s14, s15⟩
      go_simp
      with_reducible rfl
     rotate_left
     ·simp only [Act.put, sA, sZ, sS, i64_w, i32_w]
      rfl
     refine kP 2 117 #[I, I, I, O, I, O, O, O, I, I, O, O, I, O, O, I, O, O, O, I, O, O, O, I, O, O, O, I, O, O, O] ?_ (any_of HT_.out (by kernel_rfl))
     refine kP 3 118 #[I, I, I, I, I, O, O, O, I, I, O, O, I, O, O, I, O, O, O, I, O, O, O, I, O, O, O, I, O, O, O] ?_ (any_of HT_.out (by kernel_rfl))
     refine take_ (i := 5) (N := some 120) (v := ?_) (a' := ?_) #[I, I, I, I, I, I, O, O, I, I, O, O, I, O, O, I, O, O, O, I, O, O, O, I, O, O, O, I, O, O, O] rfl rfl (take_ofW HT_.out HW_.out (by kernel_rfl)) (fun _ _ _ h => h) (Or.inl ⟨by rfl, ?_⟩) hHeld ?_ ?_
     rotate_left
     ·rintro w' ⟨s0, s1, s2, s3, s4, s5, s6, s7, s8, s9, s10, s11, s12, s13, s14, s15⟩
      go_simp
      with_reducible rfl
     rotate_left
     ·simp only [Act.put, sA, sZ, sS, i64_w, i32_w]
      rfl
     refine kP 6 121 #[I, I, I, I, I, I, I, O, I, I, O, O, I, O, O, I, O, O, O, I, O, O, O, I, O, O, O, I, O, O, O] ?_ (any_of HT_.out (by kernel_rfl))
     refine take_ (i := 16) (N := some 131) (v := ?_) (a' := ?_) #[I, I, I, I, I, I, I, O, I, I, O, O, I, O, O, I, I, O, O, I, O, O, O, I, O, O, O, I, O, O, O] rfl rfl (take_ofW HT_.out HW_.out (by kernel_rfl)) (fun _ _ _ h => h) (Or.inl ⟨by rfl, ?_⟩) hHeld ?_ ?_
     rotate_left
     ·rintro w' ⟨s0, s1, s2, s3, s4, s5, s6, s7, s8, s9, s10, s11, s12, s13, s14, s15⟩
      go_simp
      with_reducible rfl
     rotate_left
     ·simp only [Act.put, sA, sZ, sS, i64_w, i32_w]
      rfl
     refine take_ (i := 20) (N := some 135) (v := ?_) (a' := ?_) #[I, I, I, I, I, I, I, O, I, I, O, O, I, O, O, I, I, O, O, I, I, O, O, I, O, O, O, I, O, O, O] rfl rfl (take_ofW HT_.out HW_.out (by kernel_rfl)) (fun _ _ _ h => h) (Or.inl ⟨by rfl, ?_⟩) hHeld ?_ ?_
     rotate_left
     ·rintro w' ⟨s0, s1, s2, s3, s4, s5, s6, s7, s8, s9, s10, s11, s12, s13, s14, s15⟩
      go_simp
      with_reducible rfl
     rotate_left
     ·simp only [Act.put, sA, sZ, sS, i64_w, i32_w]
      rfl
     refine take_ (i := 24) (N := some 139) (v := ?_) (a' := ?_) #[I, I, I, I, I, I, I, O, I, I, O, O, I, O, O, I, I, O, O, I, I, O, O, I, I, O, O, I, O, O, O] rfl rfl (take_ofW HT_.out HW_.out (by kernel_rfl)) (fun _ _ _ h => h) (Or.inl ⟨by rfl, ?_⟩) hHeld ?_ ?_
     rotate_left
     ·rintro w' ⟨s0, s1, s2, s3, s4, s5, s6, s7, s8, s9, s10, s11, s12, s13, s14, s15⟩
      go_simp
      with_reducible rfl
     rotate_left
     ·simp only [Act.put, sA, sZ, sS, i64_w, i32_w]
      rfl
     refine one_ (i := 7) (N := some 122) #[I, I, I, I, I, I, I, I, I, I, O, O, I, O, O, I, I, O, O, I, I, O, O, I, I, O, O, I, O, O, O] rfl rfl (one_of HT_.out (by kernel_rfl)) (by decide) (fun K hK => ?_)
     refine goes_ Tryd.func66 (by kernel_rfl) rfl #[.int .i64 (Go.bits .or .i64 (Go.bits .or .i64 1610612736 (wrap64 (d0 * 1048576))) d1), .int .i64 4] (by rfl) rfl rfl kA ?_
     with_reducible refine (intrusionref12_put.calls k3 (Go.bits .or .i64 (Go.bits .or .i64 1610612736 (wrap64 (d0 * 1048576))) d1) 4 t421 _ A93.out).mono ?_
     rintro e w106 ⟨rfl, hb⟩
     refine ⟨_, rfl, ?_⟩
     replace BK408 := As (blk_below (kb BK408.out) hb)
     replace HB := As (below_step (kB1 HB.out GE408.out) hb)
     (try clear hb)
     (try clear hb2)
     (try clear hk)
     (try clear hi)
     refine hK.out _ _ ⟨kC BK408.out 0, kC BK408.out 1, kC BK408.out 2, kC BK408.out 3, kC BK408.out 4, kC BK408.out 5, kC BK408.out 6, kC BK408.out 7, kC BK408.out 8, kC BK408.out 9, kC BK408.out 10, kC BK408.out 11, kC BK408.out 12, kC BK408.out 13, kC BK408.out 14, kC BK408.out 15⟩ (fun hHeld => ?_)
     clear hK K
     refine nP ?_
     refine one_ (i := 10) (N := some 125) #[I, I, I, I, I, I, I, I, I, I, I, O, I, O, O, I, I, O, O, I, I, O, O, I, I, O, O, I, O, O, O] rfl rfl (one_of HT_.out (by kernel_rfl)) (by decide) (fun K hK => ?_)
     refine goes_ Tryd.func66 (by kernel_rfl) rfl #[.int .i64 (x7_3.size : Int), .int .i64 2] (by rfl) rfl rfl kA ?_
     with_reducible refine (intrusionref12_put.calls k3 (x7_3.size : Int) 2 t422 _ A94.out).mono ?_
     rintro e w107 ⟨rfl, hb⟩
     refine ⟨_, rfl, ?_⟩
     replace BK408 := As (blk_below (kb BK408.out) hb)
     replace HB := As (below_step (kB1 HB.out GE408.out) hb)
     (try clear hb)
     (try clear hb2)
     (try clear hk)
     (try clear hi)
     refine hK.out _ _ ⟨kC BK408.out 0, kC BK408.out 1, kC BK408.out 2, kC BK408.out 3, kC BK408.out 4, kC BK408.out 5, kC BK408.out 6, kC BK408.out 7, kC BK408.out 8, kC BK408.out 9, kC BK408.out 10, kC BK408.out 11, kC BK408.out 12, kC BK408.out 13, kC BK408.out 14, kC BK408.out 15⟩ (fun hHeld => ?_)
     clear hK K
     refine nP ?_
     refine kP 11 126 #[I, I, I, I, I, I, I, I, I, I, I, I, I, O, O, I, I, O, O, I, I, O, O, I, I, O, O, I, O, O, O] ?_ (any_of HT_.out (by kernel_rfl))
     refine one_ (i := 13) (N := some 128) #[I, I, I, I, I, I, I, I, I, I, I, I, I, I, O, I, I, O, O, I, I, O, O, I, I, O, O, I, O, O, O] rfl rfl (one_of HT_.out (by kernel_rfl)) (by decide) (fun K hK => ?_)
     refine goes_ Tryd.func66 (by kernel_rfl) rfl #[.int .i64 x6_3, .int .i64 1] (by rfl) rfl rfl kA ?_
     with_reducible refine (intrusionref12_put.calls k3 x6_3 1 t423 _ A96.out).mono ?_
     rintro e w108 ⟨rfl, hb⟩
     refine ⟨_, rfl, ?_⟩
     replace BK408 := As (blk_below (kb BK408.out) hb)
     replace HB := As (below_step (kB1 HB.out GE408.out) hb)
     (try clear hb)
     (try clear hb2)
     (try clear hk)
     (try clear hi)
     refine hK.out _ _ ⟨kC BK408.out 0, kC BK408.out 1, kC BK408.out 2, kC BK408.out 3, kC BK408.out 4, kC BK408.out 5, kC BK408.out 6, kC BK408.out 7, kC BK408.out 8, kC BK408.out 9, kC BK408.out 10, kC BK408.out 11, kC BK408.out 12, kC BK408.out 13, kC BK408.out 14, kC BK408.out 15⟩ (fun hHeld => ?_)
     clear hK K
     refine nP ?_
     refine kP 14 129 #[I, I, I, I, I, I, I, I, I, I, I, I, I, I, I, I, I, O, O, I, I, O, O, I, I, O, O, I, O, O, O] ?_ (any_of HT_.out (by kernel_rfl))
     refine one_ (i := 17) (N := some 132) #[I, I, I, I, I, I, I, I, I, I, I, I, I, I, I, I, I, I, O, I, I, O, O, I, I, O, O, I, O, O, O] rfl rfl (one_of HT_.out (by kernel_rfl)) (by decide) (fun K hK => ?_)
     refine goes_ Tryd.func66 (by kernel_rfl) rfl #[.int .i64 d2, .int .i64 1] (by rfl) rfl rfl kA ?_
     with_reducible refine (intrusionref12_put.calls k3 d2 1 t424 _ A98.out).mono ?_
     rintro e w109 ⟨rfl, hb⟩
     refine ⟨_, rfl, ?_⟩
     replace BK408 := As (blk_below (kb BK408.out) hb)
     replace HB := As (below_step (kB1 HB.out GE408.out) hb)
     (try clear hb)
     (try clear hb2)
     (try clear hk)
     (try clear hi)
     refine hK.out _ _ ⟨kC BK408.out 0, kC BK408.out 1, kC BK408.out 2, kC BK408.out 3, kC BK408.out 4, kC BK408.out 5, kC BK408.out 6, kC BK408.out 7, kC BK408.out 8, kC BK408.out 9, kC BK408.out 10, kC BK408.out 11, kC BK408.out 12, kC BK408.out 13, kC BK408.out 14, kC BK408.out 15⟩ (fun hHeld => ?_)
     clear hK K
     refine nP ?_
     refine kP 18 133 #[I, I, I, I, I, I, I, I, I, I, I, I, I, I, I, I, I, I, I, I, I, O, O, I, I, O, O, I, O, O, O] ?_ (any_of HT_.out (by kernel_rfl))
     refine one_ (i := 21) (N := some 136) #[I, I, I, I, I, I, I, I, I, I, I, I, I, I, I, I, I, I, I, I, I, I, O, I, I, O, O, I, O, O, O] rfl rfl (one_of HT_.out (by kernel_rfl)) (by decide) (fun K hK => ?_)
     refine goes_ Tryd.func67 (by kernel_rfl) rfl #[.agg #[.bool d4, .int .u64 d5, .int .u64 d6]] (by rfl) rfl rfl kA ?_
     with_reducible refine (intrusionref06_Bytes.calls k3 d4 d5 d6 t425 _ A100.out).mono ?_
     rintro e w110 ⟨rfl, hb⟩
     refine ⟨_, rfl, ?_⟩
     replace BK408 := As (blk_below (kb BK408.out) hb)
     replace HB := As (below_step (kB1 HB.out GE408.out) hb)
     (try clear hb)
     (try clear hb2)
     (try clear hk)
     (try clear hi)
     refine hK.out _ _ ⟨kC BK408.out 0, kC BK408.out 1, kC BK408.out 2, kC BK408.out 3, kC BK408.out 4, kC BK408.out 5, kC BK408.out 6, kC BK408.out 7, kC BK408.out 8, kC BK408.out 9, kC BK408.out 10, kC BK408.out 11, kC BK408.out 12, kC BK408.out 13, kC BK408.out 14, kC BK408.out 15⟩ (fun hHeld => ?_)
     clear hK K
     refine nP ?_
     refine kP 22 137 #[I, I, I, I, I, I, I, I, I, I, I, I, I, I, I, I, I, I, I, I, I, I, I, I, I, O, O, I, O, O, O] ?_ (any_of HT_.out (by kernel_rfl))
     refine one_ (i := 25) (N := some 140) #[I, I, I, I, I, I, I, I, I, I, I, I, I, I, I, I, I, I, I, I, I, I, I, I, I, I, O, I, O, O, O] rfl rfl (one_of HT_.out (by kernel_rfl)) (by decide) (fun K hK => ?_)
     refine goes_ Tryd.func67 (by kernel_rfl) rfl #[.agg #[.bool d7, .int .u64 d8, .int .u64 d9]] (by rfl) rfl rfl kA ?_
     with_reducible refine (intrusionref06_Bytes.calls k3 d7 d8 d9 t426 _ A102.out).mono ?_
     rintro e w111 ⟨rfl, hb⟩
     refine ⟨_, rfl, ?_⟩
     replace BK408 := As (blk_below (kb BK408.out) hb)
     replace HB := As (below_step (kB1 HB.out GE408.out) hb)
     (try clear hb)
     (try clear hb2)
     (try clear hk)
     (try clear hi)
     refine hK.out _ _ ⟨kC BK408.out 0, kC BK408.out 1, kC BK408.out 2, kC BK408.out 3, kC BK408.out 4, kC BK408.out 5, kC BK408.out 6, kC BK408.out 7, kC BK408.out 8, kC BK408.out 9, kC BK408.out 10, kC BK408.out 11, kC BK408.out 12, kC BK408.out 13, kC BK408.out 14, kC BK408.out 15⟩ (fun hHeld => ?_)
     clear hK K
     refine nP ?_
     refine kP 26 141 #[I, I, I, I, I, I, I, I, I, I, I, I, I, I, I, I, I, I, I, I, I, I, I, I, I, I, I, I, O, O, O] ?_ (any_of HT_.out (by kernel_rfl))
     refine kP 28 143 #[I, I, I, I, I, I, I, I, I, I, I, I, I, I, I, I, I, I, I, I, I, I, I, I, I, I, I, I, I, O, O] ?_ (any_of HT_.out (by kernel_rfl))
     refine kP 29 2 #[I, I, I, I, I, I, I, I, I, I, I, I, I, I, I, I, I, I, I, I, I, I, I, I, I, I, I, I, I, I, O] ?_ (any_of HT_.out (by kernel_rfl))
     refine kP 30 3 #[I, I, I, I, I, I, I, I, I, I, I, I, I, I, I, I, I, I, I, I, I, I, I, I, I, I, I, I, I, I, I] ?_ (any_of HT_.out (by kernel_rfl))
     refine done_ (done_of HT_.out (by kernel_rfl)) ?_
     try go_wp2
     go_ret2
     exact ⟨kE, by exact kB1 HB.out GE408.out⟩
 replace c3 := Bool.eq_false_iff.mpr c3
 subst c3
 rw [if_neg (show ¬ (false = true) by decide)] at H
 simp only [Option.some.injEq, Prod.mk.injEq] at H
 obtain ⟨rfl, rfl⟩ := H
 go_enter Tryd.func37, Tryd.ntmps37
 go_wp2_with (first | ((with_reducible refine gate_dst (N := 1) rfl ?_); (try (refine gate_guard (by rfl) ?_; dsimp only)); refine box_event rfl (N := 1) rfl (cs := #[.int .i64 d0, .int .i64 d1, .int .i64 d2, .int .i64 d3, .bool d4, .int .u64 d5, .int .u64 d6, .bool d7, .int .u64 d8, .int .u64 d9, .slice A0_10 l0_10.length c0_10, .bool d11, .int .i64 d12, .int .i64 d13, .bool d14, .string d15]) (t := 60) kG ?_; intro gb408 hg w112 hbox hb; have BK408 := As (hbox); have GW408 := As ((by rw [hg]; exact (below_size (kB HB.out)) : w.heap.size ≤ gb408)); have GE408 := As ((by rw [hg]; exact (below_size (kB HB.out)) : w.heap.size ≤ gb408)); replace HB := As (below_step (kB HB.out) hb); clear hb hbox hg) | ((with_reducible refine gate_dst (N := 11) rfl ?_); (try (refine gate_guard (by rfl) ?_; dsimp only)); refine wpList_load_row ?hgd 60 _ rfl gb408 rfl 60 #[.int .i64 d0, .int .i64 d1, .int .i64 d2, .int .i64 d3, .bool d4, .int .u64 d5, .int .u64 d6, .bool d7, .int .u64 d8, .int .u64 d9, .slice A0_10 l0_10.length c0_10, .bool d11, .int .i64 d12, .int .i64 d13, .bool d14, .string d15] (0, 0) _ (kb BK408.out) Tryd.underlying60 rfl (by kernel_rfl) ?_; (case hgd => rfl)) | ((with_reducible refine gate_callee (f := 64) rfl ?_); refine goesL_ (some 12) rfl rfl Tryd.func64 (by kernel_rfl) rfl #[.agg #[.int .i64 d0, .int .i64 d1, .int .i64 d2, .int .i64 d3, .bool d4, .int .u64 d5, .int .u64 d6, .bool d7, .int .u64 d8, .int .u64 d9, .slice A0_10 l0_10.length c0_10, .bool d11, .int .i64 d12, .int .i64 d13, .bool d14, .string d15]] rfl kA ?_; (with_reducible refine (intrusionref12_ranges.calls k d0 d1 d2 d3 d4 d5 d6 d7 d8 d9 _ _ l0_10 d11 d12 d13 d14 d15 false _ ?side1 ?side2 A2.out).mono ?_); (case side1 => repeat (first | exact (Kd.C_below HR0_10.out HB.out) | (with_reducible refine Kd.C_alloc ?_ _) | (with_reducible refine Kd.C_drewN ?_ _) | (with_reducible refine Kd.C_drew ?_))); (case side2 => exact HC0_10.out); rintro e w113 ⟨rfl, hb⟩; refine ⟨_, rfl, ?_⟩; replace BK408 := As (blk_below (kb BK408.out) hb); replace HB := As (below_step (kB1 HB.out GE408.out) hb); (try clear hb)))
 go_ret2
 exact ⟨kE, by exact kB1 HB.out GE408.out⟩

end Go.Proofs.YtocobalkikkhlaaDoor.X
-- short
-- short2
