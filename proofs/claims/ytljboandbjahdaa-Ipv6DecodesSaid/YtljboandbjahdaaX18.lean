/- What the functions of the translation that this claim's statement reaches compute, each proved by its walk. Written by xprint.py, a program of this claim's author, run over the kit's printer. -/
import Derived.Test.YtljboandbjahdaaX0
import Derived.Test.YtljboandbjahdaaX14
import Derived.Test.YtljboandbjahdaaX17
namespace Go.Proofs.Ytljboandbjahdaa.X
open Go.RowKit Go.Proofs.YtljboandbjahdaaW.PrintWords Go.Proofs.YtljboandbjahdaaW.PrintLast Go.Proofs.YtljboandbjahdaaW.PrintMore
attribute [local go_sem] max2_int min2_int max_two min_two max_three min_three max_four min_four   -- for this text's walks alone
set_option linter.unusedVariables false
set_option linter.unusedSimpArgs false

/-! ### intrusionref12_Decode: function 12 -/
mutual
def intrusionref12_Decode.l0 : Nat → ByteArray → Bool → Int → Int → Int → Int → Bool → Int → Int → Bool → Int → Int → List (S60) → Bool → Int → Int → Bool → ByteArray → Option (Int × Int × Int × Int × Bool × Int × Int × Bool × Int × Int × (List (S60)) × Bool × Int × Int × Bool × ByteArray × Int)
 | 0, _, _, _, _, _, _, _, _, _, _, _, _, _, _, _, _, _, _ => none
 | k + 1, x6, x7, b0, b1, b2, b3, b4, b5, b6, b7, b8, b9, b10, b11, b12, b13, b14, b15 => (intrusionref12_extension.f b3).bind fun t393 => (if t393 = true then (intrusionref12_Decode.j1 k x6 x7 true b0 b1 b2 b3 b4 b5 b6 b7 b8 b9 b10 b11 b12 b13 b14 b15) else (intrusionref12_Decode.j1 k x6 x7 (b3 == 44) b0 b1 b2 b3 b4 b5 b6 b7 b8 b9 b10 b11 b12 b13 b14 b15))
def intrusionref12_Decode.j1 : Nat → ByteArray → Bool → Bool → Int → Int → Int → Int → Bool → Int → Int → Bool → Int → Int → List (S60) → Bool → Int → Int → Bool → ByteArray → Option (Int × Int × Int × Int × Bool × Int × Int × Bool × Int × Int × (List (S60)) × Bool × Int × Int × Bool × ByteArray × Int)
 | 0, _, _, _, _, _, _, _, _, _, _, _, _, _, _, _, _, _, _, _ => none
 | k + 1, x6, x7, x69, b0, b1, b2, b3, b4, b5, b6, b7, b8, b9, b10, b11, b12, b13, b14, b15 => if x69 = true then (if b3 = 0 then (if x7 = true then (intrusionref12_Decode.j2 k x6 b11 b0 b1 b2 b3 b4 b5 b6 b7 b8 b9 b10 b11 b12 b13 b14 b15) else (intrusionref12_Decode.j2 k x6 true b0 b1 b2 b3 b4 b5 b6 b7 b8 b9 b10 b11 b12 b13 b14 b15)) else (intrusionref12_Decode.j2 k x6 b11 b0 b1 b2 b3 b4 b5 b6 b7 b8 b9 b10 b11 b12 b13 b14 b15)) else (some (b0, b1, b2, b3, b4, b5, b6, b7, b8, b9, b10, b11, b12, b13, b14, x6, 0))
def intrusionref12_Decode.j2 : Nat → ByteArray → Bool → Int → Int → Int → Int → Bool → Int → Int → Bool → Int → Int → List (S60) → Bool → Int → Int → Bool → ByteArray → Option (Int × Int × Int × Int × Bool × Int × Int × Bool × Int × Int × (List (S60)) × Bool × Int × Int × Bool × ByteArray × Int)
 | 0, _, _, _, _, _, _, _, _, _, _, _, _, _, _, _, _, _, _ => none
 | k + 1, x6, x80, b0, b1, b2, b3, b4, b5, b6, b7, b8, b9, b10, b11, b12, b13, b14, b15 => if x80 = true then (some (0, 0, 0, 0, false, 0, 0, false, 0, 0, ([] : List (S60)), false, 0, 0, false, (⟨#[]⟩ : ByteArray), 2)) else (if b3 = 44 then (intrusionref12_Decode.j3 k x6 false b0 b1 b2 b3 b4 b5 b6 b7 b8 b9 b10 b11 b12 b13 b14 b15) else (intrusionref12_Decode.j3 k x6 ((b10.length : Int) == 8) b0 b1 b2 b3 b4 b5 b6 b7 b8 b9 b10 b11 b12 b13 b14 b15))
def intrusionref12_Decode.j3 : Nat → ByteArray → Bool → Int → Int → Int → Int → Bool → Int → Int → Bool → Int → Int → List (S60) → Bool → Int → Int → Bool → ByteArray → Option (Int × Int × Int × Int × Bool × Int × Int × Bool × Int × Int × (List (S60)) × Bool × Int × Int × Bool × ByteArray × Int)
 | 0, _, _, _, _, _, _, _, _, _, _, _, _, _, _, _, _, _, _ => none
 | k + 1, x6, x90, b0, b1, b2, b3, b4, b5, b6, b7, b8, b9, b10, b11, b12, b13, b14, b15 => if x90 = true then (some (0, 0, 0, 0, false, 0, 0, false, 0, 0, ([] : List (S60)), false, 0, 0, false, (⟨#[]⟩ : ByteArray), 9)) else (if (x6.size : Int) < 8 then (intrusionref12_Decode.j4 k x6 true b0 b1 b2 b3 b4 b5 b6 b7 b8 b9 b10 b11 b12 b13 b14 b15) else (if b3 = 44 then (intrusionref12_Decode.j4 k x6 false b0 b1 b2 b3 b4 b5 b6 b7 b8 b9 b10 b11 b12 b13 b14 b15) else (if 1 < (x6.size : Int) then (intrusionref12_Decode.j4 k x6 (decide ((x6.size : Int) < (8 + (8 * (bt x6 1))))) b0 b1 b2 b3 b4 b5 b6 b7 b8 b9 b10 b11 b12 b13 b14 b15) else (none))))
def intrusionref12_Decode.j4 : Nat → ByteArray → Bool → Int → Int → Int → Int → Bool → Int → Int → Bool → Int → Int → List (S60) → Bool → Int → Int → Bool → ByteArray → Option (Int × Int × Int × Int × Bool × Int × Int × Bool × Int × Int × (List (S60)) × Bool × Int × Int × Bool × ByteArray × Int)
 | 0, _, _, _, _, _, _, _, _, _, _, _, _, _, _, _, _, _, _ => none
 | k + 1, x6, x109, b0, b1, b2, b3, b4, b5, b6, b7, b8, b9, b10, b11, b12, b13, b14, b15 => if x109 = true then (some (0, 0, 0, 0, false, 0, 0, false, 0, 0, ([] : List (S60)), false, 0, 0, false, (⟨#[]⟩ : ByteArray), 1)) else (if 0 < (x6.size : Int) then (if b3 = 44 then (if 2 ≤ 4 then (if 4 ≤ (x6.size : Int) then ((intrusionref12_number.f k (x6.extract 2 4)).bind fun t394 => (if 3 < (x6.size : Int) then (if 4 ≤ 8 then (if 8 ≤ (x6.size : Int) then ((intrusionref12_number.f k (x6.extract 4 8)).bind fun t395 => (intrusionref12_Decode.l0 k (x6.extract 8 x6.size) false b0 b1 b2 (bt x6 0) b4 b5 b6 b7 b8 b9 b10 true t395 (wrap64 ((t394 / 8) * 8)) ((Go.bits .and .u8 (bt x6 3) 1) == 1) b15)) else (none)) else (none)) else (none))) else (none)) else (none)) else (if 1 < (x6.size : Int) then (if 2 ≤ (8 + (8 * (bt x6 1))) then (if (8 + (8 * (bt x6 1))) ≤ (x6.size : Int) then (if b10.length < 5864062014805 then (if 0 ≤ (8 + (8 * (bt x6 1))) then (intrusionref12_Decode.l0 k (x6.extract ((8 + (8 * (bt x6 1))) : Int).toNat x6.size) false b0 b1 b2 (bt x6 0) b4 b5 b6 b7 b8 b9 (b10 ++ [(⟨b3, x6.extract 2 ((8 + (8 * (bt x6 1))) : Int).toNat⟩ : S60)]) b11 b12 b13 b14 b15) else (none)) else (none)) else (none)) else (none)) else (none))) else (none))
end
def intrusionref12_Decode.f (k : Nat) (a0 : ByteArray) : Option (Int × Int × Int × Int × Bool × Int × Int × Bool × Int × Int × (List (S60)) × Bool × Int × Int × Bool × ByteArray × Int) := if (a0.size : Int) < 40 then (some (0, 0, 0, 0, false, 0, 0, false, 0, 0, ([] : List (S60)), false, 0, 0, false, (⟨#[]⟩ : ByteArray), 1)) else (if 0 < (a0.size : Int) then (if ((bt a0 0) / 16) = 6 then (if 4 ≤ 6 then (if 6 ≤ (a0.size : Int) then ((intrusionref12_number.f k (a0.extract 4 6)).bind fun t381 => (if (wrap64 ((a0.size : Int) - 40)) < t381 then (some (0, 0, 0, 0, false, 0, 0, false, 0, 0, ([] : List (S60)), false, 0, 0, false, (⟨#[]⟩ : ByteArray), 1)) else (if 0 ≤ 2 then (if 2 ≤ (a0.size : Int) then ((intrusionref12_number.f k (a0.extract 0 2)).bind fun t382 => (if 0 ≤ 4 then (if 4 ≤ (a0.size : Int) then ((intrusionref12_number.f k (a0.extract 0 4)).bind fun t383 => (if 7 < (a0.size : Int) then (if 6 < (a0.size : Int) then (if 8 ≤ 24 then (if 24 ≤ (a0.size : Int) then ((intrusionref06_FromBytes.f k (a0.extract 8 24)).bind fun bt385 => (if 24 ≤ 40 then (if 40 ≤ (a0.size : Int) then ((intrusionref06_FromBytes.f k (a0.extract 24 40)).bind fun bt389 => (if 40 ≤ (wrap64 (40 + t381)) then (if (wrap64 (40 + t381)) ≤ (a0.size : Int) then (intrusionref12_Decode.l0 k (a0.extract 40 ((wrap64 (40 + t381)) : Int).toNat) true (Go.bits .and .i64 (t382 / 16) 255) (Go.bits .and .i64 t383 1048575) (wrap64 (bt a0 7)) (wrap64 (bt a0 6)) bt385.1 bt385.2.1 bt385.2.2.1 bt389.1 bt389.2.1 bt389.2.2.1 ([] : List (S60)) false 0 0 false (⟨#[]⟩ : ByteArray)) else (none)) else (none))) else (none)) else (none))) else (none)) else (none)) else (none)) else (none))) else (none)) else (none))) else (none)) else (none)))) else (none)) else (none)) else (some (0, 0, 0, 0, false, 0, 0, false, 0, 0, ([] : List (S60)), false, 0, 0, false, (⟨#[]⟩ : ByteArray), 2))) else (none))
theorem intrusionref12_Decode.mono_l : ∀ k, (∀ y0 y1 y2 y3 y4 y5 y6 y7 y8 y9 y10 y11 y12 y13 y14 y15 y16 y17, LeO (intrusionref12_Decode.l0 k y0 y1 y2 y3 y4 y5 y6 y7 y8 y9 y10 y11 y12 y13 y14 y15 y16 y17) (intrusionref12_Decode.l0 (k + 1) y0 y1 y2 y3 y4 y5 y6 y7 y8 y9 y10 y11 y12 y13 y14 y15 y16 y17)) ∧ (∀ y0 y1 y2 y3 y4 y5 y6 y7 y8 y9 y10 y11 y12 y13 y14 y15 y16 y17 y18, LeO (intrusionref12_Decode.j1 k y0 y1 y2 y3 y4 y5 y6 y7 y8 y9 y10 y11 y12 y13 y14 y15 y16 y17 y18) (intrusionref12_Decode.j1 (k + 1) y0 y1 y2 y3 y4 y5 y6 y7 y8 y9 y10 y11 y12 y13 y14 y15 y16 y17 y18)) ∧ (∀ y0 y1 y2 y3 y4 y5 y6 y7 y8 y9 y10 y11 y12 y13 y14 y15 y16 y17, LeO (intrusionref12_Decode.j2 k y0 y1 y2 y3 y4 y5 y6 y7 y8 y9 y10 y11 y12 y13 y14 y15 y16 y17) (intrusionref12_Decode.j2 (k + 1) y0 y1 y2 y3 y4 y5 y6 y7 y8 y9 y10 y11 y12 y13 y14 y15 y16 y17)) ∧ (∀ y0 y1 y2 y3 y4 y5 y6 y7 y8 y9 y10 y11 y12 y13 y14 y15 y16 y17, LeO (intrusionref12_Decode.j3 k y0 y1 y2 y3 y4 y5 y6 y7 y8 y9 y10 y11 y12 y13 y14 y15 y16 y17) (intrusionref12_Decode.j3 (k + 1) y0 y1 y2 y3 y4 y5 y6 y7 y8 y9 y10 y11 y12 y13 y14 y15 y16 y17)) ∧ (∀ y0 y1 y2 y3 y4 y5 y6 y7 y8 y9 y10 y11 y12 y13 y14 y15 y16 y17, LeO (intrusionref12_Decode.j4 k y0 y1 y2 y3 y4 y5 y6 y7 y8 y9 y10 y11 y12 y13 y14 y15 y16 y17) (intrusionref12_Decode.j4 (k + 1) y0 y1 y2 y3 y4 y5 y6 y7 y8 y9 y10 y11 y12 y13 y14 y15 y16 y17))
 | 0 => ⟨fun _ _ _ _ _ _ _ _ _ _ _ _ _ _ _ _ _ _ r h => by simp [intrusionref12_Decode.l0] at h, fun _ _ _ _ _ _ _ _ _ _ _ _ _ _ _ _ _ _ _ r h => by simp [intrusionref12_Decode.j1] at h, fun _ _ _ _ _ _ _ _ _ _ _ _ _ _ _ _ _ _ r h => by simp [intrusionref12_Decode.j2] at h, fun _ _ _ _ _ _ _ _ _ _ _ _ _ _ _ _ _ _ r h => by simp [intrusionref12_Decode.j3] at h, fun _ _ _ _ _ _ _ _ _ _ _ _ _ _ _ _ _ _ r h => by simp [intrusionref12_Decode.j4] at h⟩
 | k + 1 => by
  obtain ⟨ih0, ih1, ih2, ih3, ih4⟩ := intrusionref12_Decode.mono_l k
  refine ⟨?_, ?_, ?_, ?_, ?_⟩
  ·intro y0 y1 y2 y3 y4 y5 y6 y7 y8 y9 y10 y11 y12 y13 y14 y15 y16 y17
   unfold intrusionref12_Decode.l0
   repeat' first | with_reducible first | apply ih0 | apply ih1 | apply ih2 | apply ih3 | apply ih4 | apply intrusionref06_FromBytes.mono | apply intrusionref12_number.mono | apply LeO.refl | apply LeO.none | refine LeO.ite ?_ ?_ | refine LeO.bind ?_ (fun _ => ?_)
  ·intro y0 y1 y2 y3 y4 y5 y6 y7 y8 y9 y10 y11 y12 y13 y14 y15 y16 y17 y18
   unfold intrusionref12_Decode.j1
   repeat' first | with_reducible first | apply ih0 | apply ih1 | apply ih2 | apply ih3 | apply ih4 | apply intrusionref06_FromBytes.mono | apply intrusionref12_number.mono | apply LeO.refl | apply LeO.none | refine LeO.ite ?_ ?_ | refine LeO.bind ?_ (fun _ => ?_)
  ·intro y0 y1 y2 y3 y4 y5 y6 y7 y8 y9 y10 y11 y12 y13 y14 y15 y16 y17
   unfold intrusionref12_Decode.j2
   repeat' first | with_reducible first | apply ih0 | apply ih1 | apply ih2 | apply ih3 | apply ih4 | apply intrusionref06_FromBytes.mono | apply intrusionref12_number.mono | apply LeO.refl | apply LeO.none | refine LeO.ite ?_ ?_ | refine LeO.bind ?_ (fun _ => ?_)
  ·intro y0 y1 y2 y3 y4 y5 y6 y7 y8 y9 y10 y11 y12 y13 y14 y15 y16 y17
   unfold intrusionref12_Decode.j3
   repeat' first | with_reducible first | apply ih0 | apply ih1 | apply ih2 | apply ih3 | apply ih4 | apply intrusionref06_FromBytes.mono | apply intrusionref12_number.mono | apply LeO.refl | apply LeO.none | refine LeO.ite ?_ ?_ | refine LeO.bind ?_ (fun _ => ?_)
  intro y0 y1 y2 y3 y4 y5 y6 y7 y8 y9 y10 y11 y12 y13 y14 y15 y16 y17
  unfold intrusionref12_Decode.j4
  repeat' first | with_reducible first | apply ih0 | apply ih1 | apply ih2 | apply ih3 | apply ih4 | apply intrusionref06_FromBytes.mono | apply intrusionref12_number.mono | apply LeO.refl | apply LeO.none | refine LeO.ite ?_ ?_ | refine LeO.bind ?_ (fun _ => ?_)
theorem intrusionref12_Decode.mono : ∀ a0 k, LeO (intrusionref12_Decode.f k a0) (intrusionref12_Decode.f (k + 1) a0) := by
 intro a0 k
 obtain ⟨ih0, ih1, ih2, ih3, ih4⟩ := intrusionref12_Decode.mono_l k
 unfold intrusionref12_Decode.f
 repeat' first | with_reducible first | apply ih0 | apply ih1 | apply ih2 | apply ih3 | apply ih4 | apply intrusionref06_FromBytes.mono | apply intrusionref12_number.mono | apply LeO.refl | apply LeO.none | refine LeO.ite ?_ ?_ | refine LeO.bind ?_ (fun _ => ?_)
def intrusionref12_Decode.T8 : Bool × List (List Nat × List Nat) := (true, [([], []), ([0], [0]), ([1], [1]), ([2], [2]), ([3], [3]), ([], []), ([5], [5]), ([6, 2], [6]), ([7], [7]), ([], []), ([9], [9]), ([10], [10]), ([], []), ([12], [12]), ([13], [13]), ([4, 8, 11, 14], [4, 8, 11, 14]), ([], []), ([16, 15, 7, 0, 1, 2, 3, 4, 5, 6, 7, 8, 9, 10, 11, 12, 13, 14, 15, 16], [15, 16])])
def intrusionref12_Decode.B8 : List Nat := [0, 1, 3, 7, 15, 0, 32, 103, 231, 0, 512, 1536, 0, 4096, 12288, 32767, 0, 131071]
theorem intrusionref12_Decode.tab8 : rtab .any (opsOf Try.f12 8) = intrusionref12_Decode.T8 := by kernel_rfl
theorem intrusionref12_Decode.bits8 : waitsOk intrusionref12_Decode.T8.2 intrusionref12_Decode.B8 = true := by kernel_rfl
def intrusionref12_Decode.T29 : Bool × List (List Nat × List Nat) := (true, [([], []), ([0], [0]), ([], []), ([2], [2]), ([], []), ([], []), ([4, 5], [4, 5]), ([3, 6], [3, 6]), ([7], [7]), ([1, 8], [1, 8]), ([0, 1, 2, 3, 4, 5, 6, 7, 8, 9], []), ([10, 9, 9, 0, 1, 2, 3, 4, 5, 6, 7, 8, 9], [9, 10])])
def intrusionref12_Decode.B29 : List Nat := [0, 1, 0, 4, 0, 0, 48, 124, 252, 511, 1023, 2047]
theorem intrusionref12_Decode.tab29 : rtab .any (opsOf Try.f12 29) = intrusionref12_Decode.T29 := by kernel_rfl
theorem intrusionref12_Decode.bits29 : waitsOk intrusionref12_Decode.T29.2 intrusionref12_Decode.B29 = true := by kernel_rfl
set_option maxHeartbeats 8000000 in
set_option maxRecDepth 100000 in
theorem intrusionref12_Decode.calls (k : Nat) (a0 : ByteArray) (r1 : Int) (r2 : Int) (r3 : Int) (r4 : Int) (r5 : Bool) (r6 : Int) (r7 : Int) (r8 : Bool) (r9 : Int) (r10 : Int) (r11 : List (S60)) (r12 : Bool) (r13 : Int) (r14 : Int) (r15 : Bool) (r16 : ByteArray) (r17 : Int) (w : World) (h : intrusionref12_Decode.f k a0 = some (r1, r2, r3, r4, r5, r6, r7, r8, r9, r10, r11, r12, r13, r14, r15, r16, r17)) :
  Calls Try.prog 12 #[.string a0] w fun e w' => ∃ v10_ : Value, e = .returned (.tuple #[.agg #[.int .i64 r1, .int .i64 r2, .int .i64 r3, .int .i64 r4, .bool r5, .int .u64 r6, .int .u64 r7, .bool r8, .int .u64 r9, .int .u64 r10, v10_, .bool r12, .int .i64 r13, .int .i64 r14, .bool r15, .string r16], .int .i64 r17]) ∧ Kd.R k60 60 w' w.heap.size (fun _ => True) v10_ r11 ∧ Below w.heap.size w w' := by
 have hu28 := Try.underlying28
 have hu25 := Try.underlying25
 have hu60 := Try.underlying60
 have HB := As (Below.refl w.heap.size w)
 have H : (if (a0.size : Int) < 40 then (some (0, 0, 0, 0, false, 0, 0, false, 0, 0, ([] : List (S60)), false, 0, 0, false, (⟨#[]⟩ : ByteArray), 1)) else (if 0 < (a0.size : Int) then (if ((bt a0 0) / 16) = 6 then (if 4 ≤ 6 then (if 6 ≤ (a0.size : Int) then ((intrusionref12_number.f k (a0.extract 4 6)).bind fun t381 => (if (wrap64 ((a0.size : Int) - 40)) < t381 then (some (0, 0, 0, 0, false, 0, 0, false, 0, 0, ([] : List (S60)), false, 0, 0, false, (⟨#[]⟩ : ByteArray), 1)) else (if 0 ≤ 2 then (if 2 ≤ (a0.size : Int) then ((intrusionref12_number.f k (a0.extract 0 2)).bind fun t382 => (if 0 ≤ 4 then (if 4 ≤ (a0.size : Int) then ((intrusionref12_number.f k (a0.extract 0 4)).bind fun t383 => (if 7 < (a0.size : Int) then (if 6 < (a0.size : Int) then (if 8 ≤ 24 then (if 24 ≤ (a0.size : Int) then ((intrusionref06_FromBytes.f k (a0.extract 8 24)).bind fun bt385 => (if 24 ≤ 40 then (if 40 ≤ (a0.size : Int) then ((intrusionref06_FromBytes.f k (a0.extract 24 40)).bind fun bt389 => (if 40 ≤ (wrap64 (40 + t381)) then (if (wrap64 (40 + t381)) ≤ (a0.size : Int) then (intrusionref12_Decode.l0 k (a0.extract 40 ((wrap64 (40 + t381)) : Int).toNat) true (Go.bits .and .i64 (t382 / 16) 255) (Go.bits .and .i64 t383 1048575) (wrap64 (bt a0 7)) (wrap64 (bt a0 6)) bt385.1 bt385.2.1 bt385.2.2.1 bt389.1 bt389.2.1 bt389.2.2.1 ([] : List (S60)) false 0 0 false (⟨#[]⟩ : ByteArray)) else (none)) else (none))) else (none)) else (none))) else (none)) else (none)) else (none)) else (none))) else (none)) else (none))) else (none)) else (none)))) else (none)) else (none)) else (some (0, 0, 0, 0, false, 0, 0, false, 0, 0, ([] : List (S60)), false, 0, 0, false, (⟨#[]⟩ : ByteArray), 2))) else (none))) = some (r1, r2, r3, r4, r5, r6, r7, r8, r9, r10, r11, r12, r13, r14, r15, r16, r17) := h
 clear h
 by_cases c2 : (a0.size : Int) < 40
 ·rw [if_pos c2] at H
  have c2b0 : decide ((a0.size : Int) < 40) = true := decide_eq_true c2
  have c2b1 : decide (a0.size < 40) = true := decide_eq_true (by omega)
  clear c2
  simp only [Option.some.injEq, Prod.mk.injEq] at H
  obtain ⟨rfl, rfl, rfl, rfl, rfl, rfl, rfl, rfl, rfl, rfl, rfl, rfl, rfl, rfl, rfl, rfl, rfl⟩ := H
  go_enter Try.func12, Try.ntmps12
  go_wp2_with (first | ((with_reducible refine gate_dst (N := 2) rfl ?_); (try (refine gate_guard (by rfl) ?_; dsimp only)); refine box_event rfl (N := 2) rfl (cs := #[.int .i64 0, .int .i64 0, .int .i64 0, .int .i64 0, .bool false, .int .u64 0, .int .u64 0, .bool false, .int .u64 0, .int .u64 0, .slice none 0 0, .bool false, .int .i64 0, .int .i64 0, .bool false, .string (⟨#[]⟩ : ByteArray)]) (t := 28) kG ?_; intro gb380 hg w3 hbox hb; have BK380 := As (hbox); have GW380 := As ((by rw [hg]; exact (below_size (kB HB.out)) : w.heap.size ≤ gb380)); have GE380 := As ((by rw [hg]; exact (below_size (kB HB.out)) : w.heap.size ≤ gb380)); replace HB := As (below_step (kB HB.out) hb); clear hb hbox hg) | ((with_reducible refine gate_store (t := 28) (p := 2) rfl ?_); refine store_rowev_16 gb380 (.int .i64 0) (.int .i64 0) (.int .i64 0) (.int .i64 0) (.bool false) (.int .u64 0) (.int .u64 0) (.bool false) (.int .u64 0) (.int .u64 0) (.slice none 0 0) (.bool false) (.int .i64 0) (.int .i64 0) (.bool false) (.string (⟨#[]⟩ : ByteArray)) rfl (t := 28) (p := 2) (v := _) rfl rfl rfl rfl (t' := 28) (kb BK380.out) (by rfl) (by kernel_rfl) (by rfl) ?_))
  refine bodyPost_ret (results_ct rfl _ _ gb380 28 #[.int .i64 0, .int .i64 0, .int .i64 0, .int .i64 0, .bool false, .int .u64 0, .int .u64 0, .bool false, .int .u64 0, .int .u64 0, .slice none 0 0, .bool false, .int .i64 0, .int .i64 0, .bool false, .string (⟨#[]⟩ : ByteArray)] (0, 0) _ rfl (by refine kb ?_; exact blk_all_16 (kb BK380.out) (by rfl)) Try.underlying28 rfl (by kernel_rfl)) rfl ?_
  exact ⟨_, kE, by first | exact Kd.R_nil _ _ _ _ _ | exact Kd.N_nil _ _ _ _ _ | exact Kd.V_nil _ _ _ _ _ | exact Kd.Q_nil _ _ _ _ _ | exact Kd.S_nil _ _ _ _ _, by exact kB1 HB.out GE380.out⟩
 rw [if_neg c2] at H
 have c2b0 : decide ((a0.size : Int) < 40) = false := decide_eq_false c2
 have c2b1 : decide (a0.size < 40) = false := decide_eq_false (by omega)
 clear c2
 by_cases c4 : 0 < (a0.size : Int)
 ·rw [if_pos c4] at H
  have c4b0 : decide (0 < (a0.size : Int)) = true := decide_eq_true c4
  have c4b1 : decide (0 < a0.size) = true := decide_eq_true (by omega)
  clear c4
  by_cases c6 : ((bt a0 0) / 16) = 6
  ·rw [if_pos c6] at H
   have c6b0 : (((bt a0 0) / 16) == 6) = true := beq_iff_eq.mpr c6
   have c6b1 : (((bt a0 0) / 16) != 6) = false := bne_eq_false_iff_eq.mpr c6
   clear c6
   by_cases c7 : 4 ≤ 6
   ·rw [if_pos c7] at H
    have c7b0 := eq_true c7
    have c7b1 : decide (4 ≤ 6) = true := decide_eq_true c7
    clear c7
    by_cases c8 : 6 ≤ (a0.size : Int)
    ·rw [if_pos c8] at H
     have c8b0 := eq_true c8
     have c8b1 : decide (6 ≤ (a0.size : Int)) = true := decide_eq_true c8
     clear c8
     replace H := Option.bind_eq_some_iff.mp H
     obtain ⟨t381, A90, H⟩ := H
     replace H : (if (wrap64 ((a0.size : Int) - 40)) < t381 then (some (0, 0, 0, 0, false, 0, 0, false, 0, 0, ([] : List (S60)), false, 0, 0, false, (⟨#[]⟩ : ByteArray), 1)) else (if 0 ≤ 2 then (if 2 ≤ (a0.size : Int) then ((intrusionref12_number.f k (a0.extract 0 2)).bind fun t382 => (if 0 ≤ 4 then (if 4 ≤ (a0.size : Int) then ((intrusionref12_number.f k (a0.extract 0 4)).bind fun t383 => (if 7 < (a0.size : Int) then (if 6 < (a0.size : Int) then (if 8 ≤ 24 then (if 24 ≤ (a0.size : Int) then ((intrusionref06_FromBytes.f k (a0.extract 8 24)).bind fun bt385 => (if 24 ≤ 40 then (if 40 ≤ (a0.size : Int) then ((intrusionref06_FromBytes.f k (a0.extract 24 40)).bind fun bt389 => (if 40 ≤ (wrap64 (40 + t381)) then (if (wrap64 (40 + t381)) ≤ (a0.size : Int) then (intrusionref12_Decode.l0 k (a0.extract 40 ((wrap64 (40 + t381)) : Int).toNat) true (Go.bits .and .i64 (t382 / 16) 255) (Go.bits .and .i64 t383 1048575) (wrap64 (bt a0 7)) (wrap64 (bt a0 6)) bt385.1 bt385.2.1 bt385.2.2.1 bt389.1 bt389.2.1 bt389.2.2.1 ([] : List (S60)) false 0 0 false (⟨#[]⟩ : ByteArray)) else (none)) else (none))) else (none)) else (none))) else (none)) else (none)) else (none)) else (none))) else (none)) else (none))) else (none)) else (none))) = some (r1, r2, r3, r4, r5, r6, r7, r8, r9, r10, r11, r12, r13, r14, r15, r16, r17) := H
     have A9 := As A90
     clear A90
     by_cases c10 : (wrap64 ((a0.size : Int) - 40)) < t381
     ·rw [if_pos c10] at H
      have c10b0 : decide ((wrap64 ((a0.size : Int) - 40)) < t381) = true := decide_eq_true c10
      clear c10
      simp only [Option.some.injEq, Prod.mk.injEq] at H
      obtain ⟨rfl, rfl, rfl, rfl, rfl, rfl, rfl, rfl, rfl, rfl, rfl, rfl, rfl, rfl, rfl, rfl, rfl⟩ := H
      go_enter Try.func12, Try.ntmps12
      go_wp2_with (first | ((with_reducible refine gate_dst (N := 2) rfl ?_); (try (refine gate_guard (by rfl) ?_; dsimp only)); refine box_event rfl (N := 2) rfl (cs := #[.int .i64 0, .int .i64 0, .int .i64 0, .int .i64 0, .bool false, .int .u64 0, .int .u64 0, .bool false, .int .u64 0, .int .u64 0, .slice none 0 0, .bool false, .int .i64 0, .int .i64 0, .bool false, .string (⟨#[]⟩ : ByteArray)]) (t := 28) kG ?_; intro gb380 hg w11 hbox hb; have BK380 := As (hbox); have GW380 := As ((by rw [hg]; exact (below_size (kB HB.out)) : w.heap.size ≤ gb380)); have GE380 := As ((by rw [hg]; exact (below_size (kB HB.out)) : w.heap.size ≤ gb380)); replace HB := As (below_step (kB HB.out) hb); clear hb hbox hg; have p5 : 0 ≤ (0 : Int) := (by omega); have q5 : 0 < a0.size := (by have : (0 : Int) < (a0.size : Int) := of_decide_eq_true (by first | (with_reducible assumption) | assumption); omega); have hx5 : ∀ h : 0 < a0.size, ((a0[0]'h).toNat : Int) = bt a0 0 := bt_at a0 0; clear p5; have qi5 : (0 < (a0.size : Int)) = True := eq_true (of_decide_eq_true (by first | (with_reducible assumption) | assumption)); replace q5 := eq_true q5; have hbl5 := (bt_range a0 0).1; have hbu5 := (bt_range a0 0).2) | ((with_reducible refine gate_callee (f := 31) rfl ?_); refine goesL_ (some 21) rfl rfl Try.func31 (by kernel_rfl) rfl #[.string (a0.extract 4 6)] rfl kA ?_; (with_reducible refine (intrusionref12_number.calls k (a0.extract 4 6) t381 _ A9.out).mono ?_); rintro e w' ⟨rfl, ⟨nd, rfl⟩⟩; refine ⟨_, rfl, ?_⟩; (try (rw [drewN_self w11]; generalize hq_ : World.drewN w11 _ = w11; have n0_ : Aside0 (w11.heap[gb380]? = some (.cells #[.int .i64 0, .int .i64 0, .int .i64 0, .int .i64 0, .bool false, .int .u64 0, .int .u64 0, .bool false, .int .u64 0, .int .u64 0, .slice none 0 0, .bool false, .int .i64 0, .int .i64 0, .bool false, .string (⟨#[]⟩ : ByteArray)] 28 (0, 0))) := ⟨by rw [← hq_]; exact (kb BK380.out)⟩; have n1_ : Aside0 (Below w.heap.size w w11) := ⟨by rw [← hq_]; exact (kB1 HB.out GE380.out)⟩; clear BK380 HB hq_; have BK380 := n0_; have HB := n1_; clear n0_ n1_))) | ((with_reducible refine gate_store (t := 28) (p := 2) rfl ?_); refine store_rowev_16 gb380 (.int .i64 0) (.int .i64 0) (.int .i64 0) (.int .i64 0) (.bool false) (.int .u64 0) (.int .u64 0) (.bool false) (.int .u64 0) (.int .u64 0) (.slice none 0 0) (.bool false) (.int .i64 0) (.int .i64 0) (.bool false) (.string (⟨#[]⟩ : ByteArray)) rfl (t := 28) (p := 2) (v := _) rfl rfl rfl rfl (t' := 28) (kb BK380.out) (by rfl) (by kernel_rfl) (by rfl) ?_))
      refine bodyPost_ret (results_ct rfl _ _ gb380 28 #[.int .i64 0, .int .i64 0, .int .i64 0, .int .i64 0, .bool false, .int .u64 0, .int .u64 0, .bool false, .int .u64 0, .int .u64 0, .slice none 0 0, .bool false, .int .i64 0, .int .i64 0, .bool false, .string (⟨#[]⟩ : ByteArray)] (0, 0) _ rfl (by refine kb ?_; exact blk_all_16 (kb BK380.out) (by rfl)) Try.underlying28 rfl (by kernel_rfl)) rfl ?_
      exact ⟨_, kE, by first | exact Kd.R_nil _ _ _ _ _ | exact Kd.N_nil _ _ _ _ _ | exact Kd.V_nil _ _ _ _ _ | exact Kd.Q_nil _ _ _ _ _ | exact Kd.S_nil _ _ _ _ _, by exact kB1 HB.out GE380.out⟩
     rw [if_neg c10] at H
     have c10b0 : decide ((wrap64 ((a0.size : Int) - 40)) < t381) = false := decide_eq_false c10
     clear c10
     by_cases c12 : 0 ≤ 2
     ·rw [if_pos c12] at H
      have c12b0 := eq_true c12
      have c12b1 : decide (0 ≤ 2) = true := decide_eq_true c12
      clear c12
      by_cases c13 : 2 ≤ (a0.size : Int)
      ·rw [if_pos c13] at H
       have c13b0 := eq_true c13
       have c13b1 : decide (2 ≤ (a0.size : Int)) = true := decide_eq_true c13
       clear c13
       replace H := Option.bind_eq_some_iff.mp H
       obtain ⟨t382, A140, H⟩ := H
       replace H : (if 0 ≤ 4 then (if 4 ≤ (a0.size : Int) then ((intrusionref12_number.f k (a0.extract 0 4)).bind fun t383 => (if 7 < (a0.size : Int) then (if 6 < (a0.size : Int) then (if 8 ≤ 24 then (if 24 ≤ (a0.size : Int) then ((intrusionref06_FromBytes.f k (a0.extract 8 24)).bind fun bt385 => (if 24 ≤ 40 then (if 40 ≤ (a0.size : Int) then ((intrusionref06_FromBytes.f k (a0.extract 24 40)).bind fun bt389 => (if 40 ≤ (wrap64 (40 + t381)) then (if (wrap64 (40 + t381)) ≤ (a0.size : Int) then (intrusionref12_Decode.l0 k (a0.extract 40 ((wrap64 (40 + t381)) : Int).toNat) true (Go.bits .and .i64 (t382 / 16) 255) (Go.bits .and .i64 t383 1048575) (wrap64 (bt a0 7)) (wrap64 (bt a0 6)) bt385.1 bt385.2.1 bt385.2.2.1 bt389.1 bt389.2.1 bt389.2.2.1 ([] : List (S60)) false 0 0 false (⟨#[]⟩ : ByteArray)) else (none)) else (none))) else (none)) else (none))) else (none)) else (none)) else (none)) else (none))) else (none)) else (none)) = some (r1, r2, r3, r4, r5, r6, r7, r8, r9, r10, r11, r12, r13, r14, r15, r16, r17) := H
       have A14 := As A140
       clear A140
       by_cases c15 : 0 ≤ 4
       ·rw [if_pos c15] at H
        have c15b0 := eq_true c15
        have c15b1 : decide (0 ≤ 4) = true := decide_eq_true c15
        clear c15
        by_cases c16 : 4 ≤ (a0.size : Int)
        ·rw [if_pos c16] at H
         have c16b0 := eq_true c16
         have c16b1 : decide (4 ≤ (a0.size : Int)) = true := decide_eq_true c16
         clear c16
         replace H := Option.bind_eq_some_iff.mp H
         obtain ⟨t383, A170, H⟩ := H
         replace H : (if 7 < (a0.size : Int) then (if 6 < (a0.size : Int) then (if 8 ≤ 24 then (if 24 ≤ (a0.size : Int) then ((intrusionref06_FromBytes.f k (a0.extract 8 24)).bind fun bt385 => (if 24 ≤ 40 then (if 40 ≤ (a0.size : Int) then ((intrusionref06_FromBytes.f k (a0.extract 24 40)).bind fun bt389 => (if 40 ≤ (wrap64 (40 + t381)) then (if (wrap64 (40 + t381)) ≤ (a0.size : Int) then (intrusionref12_Decode.l0 k (a0.extract 40 ((wrap64 (40 + t381)) : Int).toNat) true (Go.bits .and .i64 (t382 / 16) 255) (Go.bits .and .i64 t383 1048575) (wrap64 (bt a0 7)) (wrap64 (bt a0 6)) bt385.1 bt385.2.1 bt385.2.2.1 bt389.1 bt389.2.1 bt389.2.2.1 ([] : List (S60)) false 0 0 false (⟨#[]⟩ : ByteArray)) else (none)) else (none))) else (none)) else (none))) else (none)) else (none)) else (none)) else (none)) = some (r1, r2, r3, r4, r5, r6, r7, r8, r9, r10, r11, r12, r13, r14, r15, r16, r17) := H
         have A17 := As A170
         clear A170
         by_cases c18 : 7 < (a0.size : Int)
         ·rw [if_pos c18] at H
          have c18b0 : decide (7 < (a0.size : Int)) = true := decide_eq_true c18
          have c18b1 : decide (7 < a0.size) = true := decide_eq_true (by omega)
          clear c18
          by_cases c20 : 6 < (a0.size : Int)
          ·rw [if_pos c20] at H
           have c20b0 : decide (6 < (a0.size : Int)) = true := decide_eq_true c20
           have c20b1 : decide (6 < a0.size) = true := decide_eq_true (by omega)
           clear c20
           by_cases c22 : 8 ≤ 24
           ·rw [if_pos c22] at H
            have c22b0 := eq_true c22
            have c22b1 : decide (8 ≤ 24) = true := decide_eq_true c22
            clear c22
            by_cases c23 : 24 ≤ (a0.size : Int)
            ·rw [if_pos c23] at H
             have c23b0 := eq_true c23
             have c23b1 : decide (24 ≤ (a0.size : Int)) = true := decide_eq_true c23
             clear c23
             replace H := Option.bind_eq_some_iff.mp H
             obtain ⟨⟨t385, t386, t387, t388⟩, A240, H⟩ := H
             replace H : (if 24 ≤ 40 then (if 40 ≤ (a0.size : Int) then ((intrusionref06_FromBytes.f k (a0.extract 24 40)).bind fun bt389 => (if 40 ≤ (wrap64 (40 + t381)) then (if (wrap64 (40 + t381)) ≤ (a0.size : Int) then (intrusionref12_Decode.l0 k (a0.extract 40 ((wrap64 (40 + t381)) : Int).toNat) true (Go.bits .and .i64 (t382 / 16) 255) (Go.bits .and .i64 t383 1048575) (wrap64 (bt a0 7)) (wrap64 (bt a0 6)) t385 t386 t387 bt389.1 bt389.2.1 bt389.2.2.1 ([] : List (S60)) false 0 0 false (⟨#[]⟩ : ByteArray)) else (none)) else (none))) else (none)) else (none)) = some (r1, r2, r3, r4, r5, r6, r7, r8, r9, r10, r11, r12, r13, r14, r15, r16, r17) := H
             have A24 := As A240
             clear A240
             by_cases c25 : 24 ≤ 40
             ·rw [if_pos c25] at H
              have c25b0 := eq_true c25
              have c25b1 : decide (24 ≤ 40) = true := decide_eq_true c25
              clear c25
              by_cases c26 : 40 ≤ (a0.size : Int)
              ·rw [if_pos c26] at H
               have c26b0 := eq_true c26
               have c26b1 : decide (40 ≤ (a0.size : Int)) = true := decide_eq_true c26
               clear c26
               replace H := Option.bind_eq_some_iff.mp H
               obtain ⟨⟨t389, t390, t391, t392⟩, A270, H⟩ := H
               replace H : (if 40 ≤ (wrap64 (40 + t381)) then (if (wrap64 (40 + t381)) ≤ (a0.size : Int) then (intrusionref12_Decode.l0 k (a0.extract 40 ((wrap64 (40 + t381)) : Int).toNat) true (Go.bits .and .i64 (t382 / 16) 255) (Go.bits .and .i64 t383 1048575) (wrap64 (bt a0 7)) (wrap64 (bt a0 6)) t385 t386 t387 t389 t390 t391 ([] : List (S60)) false 0 0 false (⟨#[]⟩ : ByteArray)) else (none)) else (none)) = some (r1, r2, r3, r4, r5, r6, r7, r8, r9, r10, r11, r12, r13, r14, r15, r16, r17) := H
               have A27 := As A270
               clear A270
               by_cases c28 : 40 ≤ (wrap64 (40 + t381))
               ·rw [if_pos c28] at H
                have c28b0 := eq_true c28
                have c28b1 : decide (40 ≤ (wrap64 (40 + t381))) = true := decide_eq_true c28
                by_cases c29 : (wrap64 (40 + t381)) ≤ (a0.size : Int)
                ·rw [if_pos c29] at H
                 have c29b0 := eq_true c29
                 have c29b1 : decide ((wrap64 (40 + t381)) ≤ (a0.size : Int)) = true := decide_eq_true c29
                 have H' := As H
                 clear H
                 go_enter Try.func12, Try.ntmps12
                 try go_wp2_with (first | ((with_reducible refine gate_dst (N := 2) rfl ?_); (try (refine gate_guard (by rfl) ?_; dsimp only)); refine box_event rfl (N := 2) rfl (cs := #[.int .i64 0, .int .i64 0, .int .i64 0, .int .i64 0, .bool false, .int .u64 0, .int .u64 0, .bool false, .int .u64 0, .int .u64 0, .slice none 0 0, .bool false, .int .i64 0, .int .i64 0, .bool false, .string (⟨#[]⟩ : ByteArray)]) (t := 28) kG ?_; intro gb380 hg w30 hbox hb; have BK380 := As (hbox); have GW380 := As ((by rw [hg]; exact (below_size (kB HB.out)) : w.heap.size ≤ gb380)); have GE380 := As ((by rw [hg]; exact (below_size (kB HB.out)) : w.heap.size ≤ gb380)); replace HB := As (below_step (kB HB.out) hb); clear hb hbox hg; have p5 : 0 ≤ (0 : Int) := (by omega); have q5 : 0 < a0.size := (by have : (0 : Int) < (a0.size : Int) := of_decide_eq_true (by first | (with_reducible assumption) | assumption); omega); have hx5 : ∀ h : 0 < a0.size, ((a0[0]'h).toNat : Int) = bt a0 0 := bt_at a0 0; clear p5; have qi5 : (0 < (a0.size : Int)) = True := eq_true (of_decide_eq_true (by first | (with_reducible assumption) | assumption)); replace q5 := eq_true q5; have hbl5 := (bt_range a0 0).1; have hbu5 := (bt_range a0 0).2) | ((with_reducible refine gate_callee (f := 31) rfl ?_); refine goesL_ (some 21) rfl rfl Try.func31 (by kernel_rfl) rfl #[.string (a0.extract 4 6)] rfl kA ?_; (with_reducible refine (intrusionref12_number.calls k (a0.extract 4 6) t381 _ A9.out).mono ?_); rintro e w' ⟨rfl, ⟨nd, rfl⟩⟩; refine ⟨_, rfl, ?_⟩; (try (rw [drewN_self w30]; generalize hq_ : World.drewN w30 _ = w30; have n0_ : Aside0 (w30.heap[gb380]? = some (.cells #[.int .i64 0, .int .i64 0, .int .i64 0, .int .i64 0, .bool false, .int .u64 0, .int .u64 0, .bool false, .int .u64 0, .int .u64 0, .slice none 0 0, .bool false, .int .i64 0, .int .i64 0, .bool false, .string (⟨#[]⟩ : ByteArray)] 28 (0, 0))) := ⟨by rw [← hq_]; exact (kb BK380.out)⟩; have n1_ : Aside0 (Below w.heap.size w w30) := ⟨by rw [← hq_]; exact (kB1 HB.out GE380.out)⟩; clear BK380 HB hq_; have BK380 := n0_; have HB := n1_; clear n0_ n1_))))
                 replace BK380 := As (blk_drew BK380.out)
                 replace HB := As (below_drew1 HB.out)
                 have p19 : 0 ≤ (7 : Int) := (by omega)
                 have q19 : 7 < a0.size := (by have : (7 : Int) < (a0.size : Int) := of_decide_eq_true (by first | (with_reducible assumption) | assumption); omega)
                 have hx19 : ∀ h : 7 < a0.size, ((a0[7]'h).toNat : Int) = bt a0 7 := bt_at a0 7
                 clear p19
                 have qi19 : (7 < (a0.size : Int)) = True := eq_true (of_decide_eq_true (by first | (with_reducible assumption) | assumption))
                 replace q19 := eq_true q19
                 have p21 : 0 ≤ (6 : Int) := (by omega)
                 have q21 : 6 < a0.size := (by have : (6 : Int) < (a0.size : Int) := of_decide_eq_true (by first | (with_reducible assumption) | assumption); omega)
                 have hx21 : ∀ h : 6 < a0.size, ((a0[6]'h).toNat : Int) = bt a0 6 := bt_at a0 6
                 clear p21
                 have qi21 : (6 < (a0.size : Int)) = True := eq_true (of_decide_eq_true (by first | (with_reducible assumption) | assumption))
                 replace q21 := eq_true q21
                 refine start_ (n := 18) (S := fun w' => True) (ds := []) #[false, false, false, false, false, false, false, false, false, false, false, false, false, false, false, false, false, false] (by kernel_rfl) rfl rfl trivial (fun hHeld => ?_); refine with_tabW intrusionref12_Decode.tab8 intrusionref12_Decode.bits8 (fun HT_ HW_ => ?_)
                 generalize w30.drew = w31 at BK380 HB hHeld ⊢
                 refine kP 0 28 #[true, false, false, false, false, false, false, false, false, false, false, false, false, false, false, false, false, false] ?_ (any_of HT_.out (by kernel_rfl))
                 refine kP 1 29 #[true, true, false, false, false, false, false, false, false, false, false, false, false, false, false, false, false, false] ?_ (any_of HT_.out (by kernel_rfl))
                 refine kP 5 33 #[true, true, false, false, false, true, false, false, false, false, false, false, false, false, false, false, false, false] ?_ (any_of HT_.out (by kernel_rfl))
                 refine kP 6 34 #[true, true, false, false, false, true, true, false, false, false, false, false, false, false, false, false, false, false] ?_ (any_of HT_.out (by kernel_rfl))
                 refine kP 9 37 #[true, true, false, false, false, true, true, false, false, true, false, false, false, false, false, false, false, false] ?_ (any_of HT_.out (by kernel_rfl))
                 refine kP 12 40 #[true, true, false, false, false, true, true, false, false, true, false, false, true, false, false, false, false, false] ?_ (any_of HT_.out (by kernel_rfl))
                 refine take_ (i := 10) (N := some 38) (v := ?_) (a' := ?_) #[true, true, false, false, false, true, true, false, false, true, true, false, true, false, false, false, false, false] rfl rfl (take_ofW HT_.out HW_.out (by kernel_rfl)) (fun _ _ _ h => h) (Or.inl ⟨by rfl, ?_⟩) hHeld ?_ ?_
                 rotate_left
                 ·intro w' _
                  go_simp
                  with_reducible rfl
                 rotate_left
                 ·simp only [Act.put, sA, sZ, sS, i64_w, i32_w]
                  rfl
                 refine kP 11 39 #[true, true, false, false, false, true, true, false, false, true, true, true, true, false, false, false, false, false] ?_ (any_of HT_.out (by kernel_rfl))
                 refine take_ (i := 13) (N := some 41) (v := ?_) (a' := ?_) #[true, true, false, false, false, true, true, false, false, true, true, true, true, true, false, false, false, false] rfl rfl (take_ofW HT_.out HW_.out (by kernel_rfl)) (fun _ _ _ h => h) (Or.inl ⟨by rfl, ?_⟩) hHeld ?_ ?_
                 rotate_left
                 ·intro w' _
                  go_simp
                  with_reducible rfl
                 rotate_left
                 ·simp only [Act.put, sA, sZ, sS, i64_w, i32_w]
                  rfl
                 refine kP 14 42 #[true, true, false, false, false, true, true, false, false, true, true, true, true, true, true, false, false, false] ?_ (any_of HT_.out (by kernel_rfl))
                 refine join_ (σ := Nat) 1 #[true, true, true, true, true, true, true, true, true, true, true, true, true, true, true, true, true, false] (fun s_ => [(30, .int .i64 t382), (35, .int .i64 t383), (5, .pointer (some ⟨s_, 0, none⟩)), (31, .int .i64 (t382 / 16)), (32, .int .i64 (Go.bits .and .i64 (t382 / 16) 255)), (36, .int .i64 (Go.bits .and .i64 t383 1048575)), (43, .agg #[.int .i64 (Go.bits .and .i64 (t382 / 16) 255), .int .i64 (Go.bits .and .i64 t383 1048575), .int .i64 (wrap64 (bt a0 7)), .int .i64 (wrap64 (bt a0 6)), .bool false, .int .u64 0, .int .u64 0, .bool false, .int .u64 0, .int .u64 0, .slice none 0 0, .bool false, .int .i64 0, .int .i64 0, .bool false, .string (⟨#[]⟩ : ByteArray)])]) (fun s_ w' => (w'.heap[gb380]? = some (.cells #[.int .i64 0, .int .i64 0, .int .i64 0, .int .i64 0, .bool false, .int .u64 0, .int .u64 0, .bool false, .int .u64 0, .int .u64 0, .slice none 0 0, .bool false, .int .i64 0, .int .i64 0, .bool false, .string (⟨#[]⟩ : ByteArray)] 28 (0, 0))) ∧ (w'.heap[s_]? = some (.cells #[.int .i64 0, .int .i64 0, .int .i64 0, .int .i64 0, .bool false, .int .u64 0, .int .u64 0, .bool false, .int .u64 0, .int .u64 0, .slice none 0 0, .bool false, .int .i64 0, .int .i64 0, .bool false, .string (⟨#[]⟩ : ByteArray)] 28 (0, 0))) ∧ (w.heap.size ≤ s_) ∧ (w.heap.size ≤ s_) ∧ (gb380 ≠ s_) ∧ (s_ ≠ gb380) ∧ (Below w.heap.size w w')) ?_ ?_
                 rotate_left
                 ·intro hCont
                  refine two_ (i := 2) (j := 16) (Ni := some 30) (Nj := some 5) #[true, true, true, false, false, true, true, false, false, true, true, true, true, true, true, false, false, false] #[true, true, false, false, false, true, true, false, false, true, true, true, true, true, true, false, true, false] rfl rfl rfl rfl (two_of HT_.out (by kernel_rfl)) (by decide) (by decide) (fun K hK => ?_) (fun K hK => ?_)
                  ·skip
                   refine goes_ Try.func31 (by kernel_rfl) rfl #[.string (a0.extract 0 2)] (by rfl) rfl rfl kA ?_
                   with_reducible refine (intrusionref12_number.calls k (a0.extract 0 2) t382 _ A14.out).mono ?_
                   rintro e w' ⟨rfl, ⟨nd, rfl⟩⟩
                   refine ⟨_, rfl, ?_⟩
                   refine hK.out _ _ trivial (fun hHeld => ?_)
                   clear hK K
                   refine norm_ (a' := ?_) ?_ ?_
                   rotate_left
                   ·show Act.put _ (some 30) _ = _
                    simp only [Act.put, sA, sZ, sS, i64_w, i32_w]
                    rfl
                   refine kP 3 31 #[true, true, true, true, false, true, true, false, false, true, true, true, true, true, true, false, false, false] ?_ (any_of HT_.out (by kernel_rfl))
                   refine kP 4 32 #[true, true, true, true, true, true, true, false, false, true, true, true, true, true, true, false, false, false] ?_ (any_of HT_.out (by kernel_rfl))
                   refine two_ (i := 7) (j := 16) (Ni := some 35) (Nj := some 5) #[true, true, true, true, true, true, true, true, false, true, true, true, true, true, true, false, false, false] #[true, true, true, true, true, true, true, false, false, true, true, true, true, true, true, false, true, false] rfl rfl rfl rfl (two_of HT_.out (by kernel_rfl)) (by decide) (by decide) (fun K hK => ?_) (fun K hK => ?_)
                   ·skip
                    refine goes_ Try.func31 (by kernel_rfl) rfl #[.string (a0.extract 0 4)] (by rfl) rfl rfl kA ?_
                    with_reducible refine (intrusionref12_number.calls k (a0.extract 0 4) t383 _ A17.out).mono ?_
                    rintro e w' ⟨rfl, ⟨nd, rfl⟩⟩
                    refine ⟨_, rfl, ?_⟩
                    refine hK.out _ _ trivial (fun hHeld => ?_)
                    clear hK K
                    refine norm_ (a' := ?_) ?_ ?_
                    rotate_left
                    ·show Act.put _ (some 35) _ = _
                     simp only [Act.put, sA, sZ, sS, i64_w, i32_w]
                     rfl
                    refine kP 8 36 #[true, true, true, true, true, true, true, true, true, true, true, true, true, true, true, false, false, false] ?_ (any_of HT_.out (by kernel_rfl))
                    refine kP 15 43 #[true, true, true, true, true, true, true, true, true, true, true, true, true, true, true, true, false, false] ?_ (any_of HT_.out (by kernel_rfl))
                    refine one_ (i := 16) (N := some 5) #[true, true, true, true, true, true, true, true, true, true, true, true, true, true, true, true, true, false] rfl rfl (one_of HT_.out (by kernel_rfl)) (by decide) (fun K hK => ?_)
                    refine box_step rfl (N := 5) rfl (cs := #[.int .i64 0, .int .i64 0, .int .i64 0, .int .i64 0, .bool false, .int .u64 0, .int .u64 0, .bool false, .int .u64 0, .int .u64 0, .slice none 0 0, .bool false, .int .i64 0, .int .i64 0, .bool false, .string (⟨#[]⟩ : ByteArray)]) (t := 28) kG ?_
                    intro gb384 hg w32 hbox hb
                    have BK384 := As (hbox)
                    have GW384 := As ((by rw [hg]; exact (below_size (kB1 HB.out GE380.out)) : w.heap.size ≤ gb384))
                    have GE384 := As ((by rw [hg]; exact (below_size (kB1 HB.out GE380.out)) : w.heap.size ≤ gb384))
                    replace HB := As (below_step (kB1 HB.out GE380.out) hb)
                    have NB380_384 := As ((by rw [hg]; exact Nat.ne_of_lt (blk_lt (kb BK380.out)) : gb380 ≠ gb384))
                    have NB384_380 := As ((by rw [hg]; exact Nat.ne_of_gt (blk_lt (kb BK380.out)) : gb384 ≠ gb380))
                    replace BK380 := As (blk_below (kb BK380.out) hb)
                    clear hb hbox hg
                    refine hK.out _ _ trivial (fun hHeld => ?_)
                    clear hK K
                    refine norm_ (a' := ?_) ?_ ?_
                    rotate_left
                    ·show Act.put _ (some 5) _ = _
                     simp only [Act.put, sA, sZ, sS, i64_w, i32_w]
                     rfl
                    exact norm_ (by simp only [putAll, Act.put, sA, sZ, sS]) (hCont (gb384) _ ⟨(kb BK380.out), (kb BK384.out), GW384.out, GE384.out, NB380_384.out, NB384_380.out, (kB2 HB.out GE380.out GE384.out)⟩)
                   skip
                   refine box_step rfl (N := 5) rfl (cs := #[.int .i64 0, .int .i64 0, .int .i64 0, .int .i64 0, .bool false, .int .u64 0, .int .u64 0, .bool false, .int .u64 0, .int .u64 0, .slice none 0 0, .bool false, .int .i64 0, .int .i64 0, .bool false, .string (⟨#[]⟩ : ByteArray)]) (t := 28) kG ?_
                   intro gb384 hg w32 hbox hb
                   have BK384 := As (hbox)
                   have GW384 := As ((by rw [hg]; exact (below_size (kB1 HB.out GE380.out)) : w.heap.size ≤ gb384))
                   have GE384 := As ((by rw [hg]; exact (below_size (kB1 HB.out GE380.out)) : w.heap.size ≤ gb384))
                   replace HB := As (below_step (kB1 HB.out GE380.out) hb)
                   have NB380_384 := As ((by rw [hg]; exact Nat.ne_of_lt (blk_lt (kb BK380.out)) : gb380 ≠ gb384))
                   have NB384_380 := As ((by rw [hg]; exact Nat.ne_of_gt (blk_lt (kb BK380.out)) : gb384 ≠ gb380))
                   replace BK380 := As (blk_below (kb BK380.out) hb)
                   clear hb hbox hg
                   refine hK.out _ _ trivial (fun hHeld => ?_)
                   clear hK K
                   refine norm_ (a' := ?_) ?_ ?_
                   rotate_left
                   ·show Act.put _ (some 5) _ = _
                    simp only [Act.put, sA, sZ, sS, i64_w, i32_w]
                    rfl
                   refine one_ (i := 7) (N := some 35) #[true, true, true, true, true, true, true, true, false, true, true, true, true, true, true, false, true, false] rfl rfl (one_of HT_.out (by kernel_rfl)) (by decide) (fun K hK => ?_)
                   refine goes_ Try.func31 (by kernel_rfl) rfl #[.string (a0.extract 0 4)] (by rfl) rfl rfl kA ?_
                   with_reducible refine (intrusionref12_number.calls k (a0.extract 0 4) t383 _ A17.out).mono ?_
                   rintro e w' ⟨rfl, ⟨nd, rfl⟩⟩
                   refine ⟨_, rfl, ?_⟩
                   refine hK.out _ _ trivial (fun hHeld => ?_)
                   clear hK K
                   refine norm_ (a' := ?_) ?_ ?_
                   rotate_left
                   ·show Act.put _ (some 35) _ = _
                    simp only [Act.put, sA, sZ, sS, i64_w, i32_w]
                    rfl
                   refine kP 8 36 #[true, true, true, true, true, true, true, true, true, true, true, true, true, true, true, false, true, false] ?_ (any_of HT_.out (by kernel_rfl))
                   refine kP 15 43 #[true, true, true, true, true, true, true, true, true, true, true, true, true, true, true, true, true, false] ?_ (any_of HT_.out (by kernel_rfl))
                   exact norm_ (by simp only [putAll, Act.put, sA, sZ, sS]) (hCont (gb384) _ ⟨(kb BK380.out), (kb BK384.out), GW384.out, GE384.out, NB380_384.out, NB384_380.out, (kB2 HB.out GE380.out GE384.out)⟩)
                  skip
                  refine box_step rfl (N := 5) rfl (cs := #[.int .i64 0, .int .i64 0, .int .i64 0, .int .i64 0, .bool false, .int .u64 0, .int .u64 0, .bool false, .int .u64 0, .int .u64 0, .slice none 0 0, .bool false, .int .i64 0, .int .i64 0, .bool false, .string (⟨#[]⟩ : ByteArray)]) (t := 28) kG ?_
                  intro gb384 hg w32 hbox hb
                  have BK384 := As (hbox)
                  have GW384 := As ((by rw [hg]; exact (below_size (kB1 HB.out GE380.out)) : w.heap.size ≤ gb384))
                  have GE384 := As ((by rw [hg]; exact (below_size (kB1 HB.out GE380.out)) : w.heap.size ≤ gb384))
                  replace HB := As (below_step (kB1 HB.out GE380.out) hb)
                  have NB380_384 := As ((by rw [hg]; exact Nat.ne_of_lt (blk_lt (kb BK380.out)) : gb380 ≠ gb384))
                  have NB384_380 := As ((by rw [hg]; exact Nat.ne_of_gt (blk_lt (kb BK380.out)) : gb384 ≠ gb380))
                  replace BK380 := As (blk_below (kb BK380.out) hb)
                  clear hb hbox hg
                  refine hK.out _ _ trivial (fun hHeld => ?_)
                  clear hK K
                  refine norm_ (a' := ?_) ?_ ?_
                  rotate_left
                  ·show Act.put _ (some 5) _ = _
                   simp only [Act.put, sA, sZ, sS, i64_w, i32_w]
                   rfl
                  refine one_ (i := 2) (N := some 30) #[true, true, true, false, false, true, true, false, false, true, true, true, true, true, true, false, true, false] rfl rfl (one_of HT_.out (by kernel_rfl)) (by decide) (fun K hK => ?_)
                  refine goes_ Try.func31 (by kernel_rfl) rfl #[.string (a0.extract 0 2)] (by rfl) rfl rfl kA ?_
                  with_reducible refine (intrusionref12_number.calls k (a0.extract 0 2) t382 _ A14.out).mono ?_
                  rintro e w' ⟨rfl, ⟨nd, rfl⟩⟩
                  refine ⟨_, rfl, ?_⟩
                  refine hK.out _ _ trivial (fun hHeld => ?_)
                  clear hK K
                  refine norm_ (a' := ?_) ?_ ?_
                  rotate_left
                  ·show Act.put _ (some 30) _ = _
                   simp only [Act.put, sA, sZ, sS, i64_w, i32_w]
                   rfl
                  refine kP 3 31 #[true, true, true, true, false, true, true, false, false, true, true, true, true, true, true, false, true, false] ?_ (any_of HT_.out (by kernel_rfl))
                  refine kP 4 32 #[true, true, true, true, true, true, true, false, false, true, true, true, true, true, true, false, true, false] ?_ (any_of HT_.out (by kernel_rfl))
                  refine one_ (i := 7) (N := some 35) #[true, true, true, true, true, true, true, true, false, true, true, true, true, true, true, false, true, false] rfl rfl (one_of HT_.out (by kernel_rfl)) (by decide) (fun K hK => ?_)
                  refine goes_ Try.func31 (by kernel_rfl) rfl #[.string (a0.extract 0 4)] (by rfl) rfl rfl kA ?_
                  with_reducible refine (intrusionref12_number.calls k (a0.extract 0 4) t383 _ A17.out).mono ?_
                  rintro e w' ⟨rfl, ⟨nd, rfl⟩⟩
                  refine ⟨_, rfl, ?_⟩
                  refine hK.out _ _ trivial (fun hHeld => ?_)
                  clear hK K
                  refine norm_ (a' := ?_) ?_ ?_
                  rotate_left
                  ·show Act.put _ (some 35) _ = _
                   simp only [Act.put, sA, sZ, sS, i64_w, i32_w]
                   rfl
                  refine kP 8 36 #[true, true, true, true, true, true, true, true, true, true, true, true, true, true, true, false, true, false] ?_ (any_of HT_.out (by kernel_rfl))
                  refine kP 15 43 #[true, true, true, true, true, true, true, true, true, true, true, true, true, true, true, true, true, false] ?_ (any_of HT_.out (by kernel_rfl))
                  exact norm_ (by simp only [putAll, Act.put, sA, sZ, sS]) (hCont (gb384) _ ⟨(kb BK380.out), (kb BK384.out), GW384.out, GE384.out, NB380_384.out, NB384_380.out, (kB2 HB.out GE380.out GE384.out)⟩)
                 rintro gb384 w33 ⟨h0_, h1_, h2_, h3_, h4_, h5_, h6_⟩
                 have n0_ : Aside0 (w33.heap[gb380]? = some (.cells #[.int .i64 0, .int .i64 0, .int .i64 0, .int .i64 0, .bool false, .int .u64 0, .int .u64 0, .bool false, .int .u64 0, .int .u64 0, .slice none 0 0, .bool false, .int .i64 0, .int .i64 0, .bool false, .string (⟨#[]⟩ : ByteArray)] 28 (0, 0))) := ⟨h0_⟩
                 have n1_ : Aside0 (w33.heap[gb384]? = some (.cells #[.int .i64 0, .int .i64 0, .int .i64 0, .int .i64 0, .bool false, .int .u64 0, .int .u64 0, .bool false, .int .u64 0, .int .u64 0, .slice none 0 0, .bool false, .int .i64 0, .int .i64 0, .bool false, .string (⟨#[]⟩ : ByteArray)] 28 (0, 0))) := ⟨h1_⟩
                 have n2_ : Aside0 (w.heap.size ≤ gb384) := ⟨h2_⟩
                 have n3_ : Aside0 (w.heap.size ≤ gb384) := ⟨h3_⟩
                 have n4_ : Aside0 (gb380 ≠ gb384) := ⟨h4_⟩
                 have n5_ : Aside0 (gb384 ≠ gb380) := ⟨h5_⟩
                 have n6_ : Aside0 (Below w.heap.size w w33) := ⟨h6_⟩
                 clear BK380
                 clear HB
                 clear h0_ h1_ h2_ h3_ h4_ h5_ h6_
                 have BK380 := n0_
                 have BK384 := n1_
                 have GW384 := n2_
                 have GE384 := n3_
                 have NB380_384 := n4_
                 have NB384_380 := n5_
                 have HB := n6_
                 clear n0_ n1_ n2_ n3_ n4_ n5_ n6_
                 have hHeld := trivial
                 refine norm_ (a' := ?_) ?_ ?_
                 rotate_left
                 ·simp only [putAll, Act.put, sA, sZ, sS]
                  rfl
                 refine one_ (i := 17) (N := none) #[true, true, true, true, true, true, true, true, true, true, true, true, true, true, true, true, true, true] rfl rfl (one_of HT_.out (by kernel_rfl)) (by decide) (fun K hK => ?_)
                 have hs34 : w33.cell? ⟨gb384, 0, none⟩ = some (.int .i64 0) := (blk_cell BK384.out 0).trans rfl
                 have hfs34 := blk_frozen BK384.out 0
                 have hns34_0 := NB380_384.out
                 have hms34_0 := NB384_380.out
                 have hs35 : w33.cell? ⟨gb384, 1, none⟩ = some (.int .i64 0) := (blk_cell BK384.out 1).trans rfl
                 have hfs35 := blk_frozen BK384.out 1
                 have hns35_0 := NB380_384.out
                 have hms35_0 := NB384_380.out
                 have hs36 : w33.cell? ⟨gb384, 2, none⟩ = some (.int .i64 0) := (blk_cell BK384.out 2).trans rfl
                 have hfs36 := blk_frozen BK384.out 2
                 have hns36_0 := NB380_384.out
                 have hms36_0 := NB384_380.out
                 have hs37 : w33.cell? ⟨gb384, 3, none⟩ = some (.int .i64 0) := (blk_cell BK384.out 3).trans rfl
                 have hfs37 := blk_frozen BK384.out 3
                 have hns37_0 := NB380_384.out
                 have hms37_0 := NB384_380.out
                 have hs38 : w33.cell? ⟨gb384, 4, none⟩ = some (.bool false) := (blk_cell BK384.out 4).trans rfl
                 have hfs38 := blk_frozen BK384.out 4
                 have hns38_0 := NB380_384.out
                 have hms38_0 := NB384_380.out
                 have hs39 : w33.cell? ⟨gb384, 5, none⟩ = some (.int .u64 0) := (blk_cell BK384.out 5).trans rfl
                 have hfs39 := blk_frozen BK384.out 5
                 have hns39_0 := NB380_384.out
                 have hms39_0 := NB384_380.out
                 have hs40 : w33.cell? ⟨gb384, 6, none⟩ = some (.int .u64 0) := (blk_cell BK384.out 6).trans rfl
                 have hfs40 := blk_frozen BK384.out 6
                 have hns40_0 := NB380_384.out
                 have hms40_0 := NB384_380.out
                 have hs41 : w33.cell? ⟨gb384, 7, none⟩ = some (.bool false) := (blk_cell BK384.out 7).trans rfl
                 have hfs41 := blk_frozen BK384.out 7
                 have hns41_0 := NB380_384.out
                 have hms41_0 := NB384_380.out
                 have hs42 : w33.cell? ⟨gb384, 8, none⟩ = some (.int .u64 0) := (blk_cell BK384.out 8).trans rfl
                 have hfs42 := blk_frozen BK384.out 8
                 have hns42_0 := NB380_384.out
                 have hms42_0 := NB384_380.out
                 have hs43 : w33.cell? ⟨gb384, 9, none⟩ = some (.int .u64 0) := (blk_cell BK384.out 9).trans rfl
                 have hfs43 := blk_frozen BK384.out 9
                 have hns43_0 := NB380_384.out
                 have hms43_0 := NB384_380.out
                 have hs44 : w33.cell? ⟨gb384, 10, none⟩ = some (.slice none 0 0) := (blk_cell BK384.out 10).trans rfl
                 have hfs44 := blk_frozen BK384.out 10
                 have hns44_0 := NB380_384.out
                 have hms44_0 := NB384_380.out
                 have hs45 : w33.cell? ⟨gb384, 11, none⟩ = some (.bool false) := (blk_cell BK384.out 11).trans rfl
                 have hfs45 := blk_frozen BK384.out 11
                 have hns45_0 := NB380_384.out
                 have hms45_0 := NB384_380.out
                 have hs46 : w33.cell? ⟨gb384, 12, none⟩ = some (.int .i64 0) := (blk_cell BK384.out 12).trans rfl
                 have hfs46 := blk_frozen BK384.out 12
                 have hns46_0 := NB380_384.out
                 have hms46_0 := NB384_380.out
                 have hs47 : w33.cell? ⟨gb384, 13, none⟩ = some (.int .i64 0) := (blk_cell BK384.out 13).trans rfl
                 have hfs47 := blk_frozen BK384.out 13
                 have hns47_0 := NB380_384.out
                 have hms47_0 := NB384_380.out
                 have hs48 : w33.cell? ⟨gb384, 14, none⟩ = some (.bool false) := (blk_cell BK384.out 14).trans rfl
                 have hfs48 := blk_frozen BK384.out 14
                 have hns48_0 := NB380_384.out
                 have hms48_0 := NB384_380.out
                 have hs49 : w33.cell? ⟨gb384, 15, none⟩ = some (.string (⟨#[]⟩ : ByteArray)) := (blk_cell BK384.out 15).trans rfl
                 have hfs49 := blk_frozen BK384.out 15
                 have hns49_0 := NB380_384.out
                 have hms49_0 := NB384_380.out
                 refine skip_ (w1 := ?_) (by rfl) rfl ?_ ?_
                 rotate_left
                 ·go_simp
                  rfl
                 refine hK.out _ _ trivial (fun hHeld => ?_)
                 clear hK K
                 refine done_ (done_of HT_.out (by kernel_rfl)) ?_
                 try go_wp2_with (first | ((with_reducible refine gate_callee (f := 32) rfl ?_); refine goesL_ (some 47) rfl rfl Try.func32 (by kernel_rfl) rfl #[.string (a0.extract 8 24)] rfl kA ?_; (with_reducible refine (intrusionref06_FromBytes.calls k (a0.extract 8 24) t385 t386 t387 t388 _ A24.out).mono ?_); rintro e w50 ⟨rfl, hb⟩; refine ⟨_, rfl, ?_⟩; replace BK380 := As (blk_below (g := gb380) (o := .cells #[.int .i64 0, .int .i64 0, .int .i64 0, .int .i64 0, .bool false, .int .u64 0, .int .u64 0, .bool false, .int .u64 0, .int .u64 0, .slice none 0 0, .bool false, .int .i64 0, .int .i64 0, .bool false, .string (⟨#[]⟩ : ByteArray)] 28 (0, 0)) (by refine kb ?_; (iterate 16 (refine blk_far ?_ NB380_384.out _; refine kb ?_)); exact BK380.out) hb); replace BK384 := As (blk_below (g := gb384) (o := .cells #[.int .i64 (Go.bits .and .i64 (t382 / 16) 255), .int .i64 (Go.bits .and .i64 t383 1048575), .int .i64 (wrap64 (bt a0 7)), .int .i64 (wrap64 (bt a0 6)), .bool false, .int .u64 0, .int .u64 0, .bool false, .int .u64 0, .int .u64 0, .slice none 0 0, .bool false, .int .i64 0, .int .i64 0, .bool false, .string (⟨#[]⟩ : ByteArray)] 28 (0, 0)) (by refine kb ?_; exact blk_all_16 (kb BK384.out) (by rfl)) hb); replace HB := As (below_step (kB2 HB.out GE380.out GE384.out) hb); (try clear hb); have hnb51 := NB384_380.out; have hnc51 := NB380_384.out; have hcz52_0 := cells_16 BK384.out; have hfz52_0 := fun j_ => blk_frozen BK384.out j_) | ((with_reducible refine gate_callee (f := 32) rfl ?_); refine goesL_ (some 54) rfl rfl Try.func32 (by kernel_rfl) rfl #[.string (a0.extract 24 40)] rfl kA ?_; (with_reducible refine (intrusionref06_FromBytes.calls k (a0.extract 24 40) t389 t390 t391 t392 _ A27.out).mono ?_); rintro e w53 ⟨rfl, hb⟩; refine ⟨_, rfl, ?_⟩; replace BK380 := As (blk_below (g := gb380) (o := .cells #[.int .i64 0, .int .i64 0, .int .i64 0, .int .i64 0, .bool false, .int .u64 0, .int .u64 0, .bool false, .int .u64 0, .int .u64 0, .slice none 0 0, .bool false, .int .i64 0, .int .i64 0, .bool false, .string (⟨#[]⟩ : ByteArray)] 28 (0, 0)) (by refine kb ?_; (iterate 3 (refine blk_far ?_ NB380_384.out _; refine kb ?_)); exact BK380.out) hb); replace BK384 := As (blk_below (g := gb384) (o := .cells #[.int .i64 (Go.bits .and .i64 (t382 / 16) 255), .int .i64 (Go.bits .and .i64 t383 1048575), .int .i64 (wrap64 (bt a0 7)), .int .i64 (wrap64 (bt a0 6)), .bool t385, .int .u64 t386, .int .u64 t387, .bool false, .int .u64 0, .int .u64 0, .slice none 0 0, .bool false, .int .i64 0, .int .i64 0, .bool false, .string (⟨#[]⟩ : ByteArray)] 28 (0, 0)) (by refine kb ?_; refine blk_put (cs := #[.int .i64 (Go.bits .and .i64 (t382 / 16) 255), .int .i64 (Go.bits .and .i64 t383 1048575), .int .i64 (wrap64 (bt a0 7)), .int .i64 (wrap64 (bt a0 6)), .bool t385, .int .u64 t386, .int .u64 0, .bool false, .int .u64 0, .int .u64 0, .slice none 0 0, .bool false, .int .i64 0, .int .i64 0, .bool false, .string (⟨#[]⟩ : ByteArray)]) ?_ 6 _ rfl; refine kb ?_; refine blk_put (cs := #[.int .i64 (Go.bits .and .i64 (t382 / 16) 255), .int .i64 (Go.bits .and .i64 t383 1048575), .int .i64 (wrap64 (bt a0 7)), .int .i64 (wrap64 (bt a0 6)), .bool t385, .int .u64 0, .int .u64 0, .bool false, .int .u64 0, .int .u64 0, .slice none 0 0, .bool false, .int .i64 0, .int .i64 0, .bool false, .string (⟨#[]⟩ : ByteArray)]) ?_ 5 _ rfl; refine kb ?_; refine blk_put (cs := #[.int .i64 (Go.bits .and .i64 (t382 / 16) 255), .int .i64 (Go.bits .and .i64 t383 1048575), .int .i64 (wrap64 (bt a0 7)), .int .i64 (wrap64 (bt a0 6)), .bool false, .int .u64 0, .int .u64 0, .bool false, .int .u64 0, .int .u64 0, .slice none 0 0, .bool false, .int .i64 0, .int .i64 0, .bool false, .string (⟨#[]⟩ : ByteArray)]) ?_ 4 _ rfl; exact kb BK384.out) hb); replace HB := As (below_step (kB2 HB.out GE380.out GE384.out) hb); (try clear hb); have hcz54_0 := cells_16 BK384.out; have hfz54_0 := fun j_ => blk_frozen BK384.out j_))
                 go_loopg [6, 7] k (fun kq v6 v7 w' => ∃ (x6_1 : ByteArray) (x7_1 : Bool) (x381000_1 : Int) (x381001_1 : Int) (x381002_1 : Int) (x381003_1 : Int) (x381004_1 : Bool) (x381005_1 : Int) (x381006_1 : Int) (x381007_1 : Bool) (x381008_1 : Int) (x381009_1 : Int) (x381011_1 : Bool) (x381012_1 : Int) (x381013_1 : Int) (x381014_1 : Bool) (x381015_1 : ByteArray) (x385003_1 : Int) (x385010_1 : List (S60)) (x385011_1 : Bool) (x385012_1 : Int) (x385013_1 : Int) (x385014_1 : Bool) (u385010 : Value), v6 = .string x6_1 ∧ v7 = .bool x7_1 ∧ Aside0 (intrusionref12_Decode.l0 kq x6_1 x7_1 (Go.bits .and .i64 (t382 / 16) 255) (Go.bits .and .i64 t383 1048575) (wrap64 (bt a0 7)) x385003_1 t385 t386 t387 t389 t390 t391 x385010_1 x385011_1 x385012_1 x385013_1 x385014_1 (⟨#[]⟩ : ByteArray) = some (r1, r2, r3, r4, r5, r6, r7, r8, r9, r10, r11, r12, r13, r14, r15, r16, r17)) ∧ Aside0 (kq ≤ k) ∧ Aside0 (Kd.R k60 60 w' w.heap.size (fun _ => True) u385010 x385010_1) ∧ Aside0 (w'.heap[gb380]? = some (.cells #[.int .i64 x381000_1, .int .i64 x381001_1, .int .i64 x381002_1, .int .i64 x381003_1, .bool x381004_1, .int .u64 x381005_1, .int .u64 x381006_1, .bool x381007_1, .int .u64 x381008_1, .int .u64 x381009_1, (.slice none 0 0), .bool x381011_1, .int .i64 x381012_1, .int .i64 x381013_1, .bool x381014_1, .string x381015_1] 28 (0, 0))) ∧ Aside0 (w'.heap[gb384]? = some (.cells #[.int .i64 (Go.bits .and .i64 (t382 / 16) 255), .int .i64 (Go.bits .and .i64 t383 1048575), .int .i64 (wrap64 (bt a0 7)), .int .i64 x385003_1, .bool t385, .int .u64 t386, .int .u64 t387, .bool t389, .int .u64 t390, .int .u64 t391, u385010, .bool x385011_1, .int .i64 x385012_1, .int .i64 x385013_1, .bool x385014_1, .string (⟨#[]⟩ : ByteArray)] 28 (0, 0))) ∧ Aside0 (Below w.heap.size w w'))
                 case atStart => exact ⟨(a0.extract 40 ((wrap64 (40 + t381)) : Int).toNat), (true), (0), (0), (0), (0), (false), (0), (0), (false), (0), (0), (false), (0), (0), (false), ((⟨#[]⟩ : ByteArray)), (wrap64 (bt a0 6)), (([] : List (S60))), (false), (0), (0), (false), (.slice none 0 0), kS, kS, H', ⟨Nat.le_refl _⟩, ⟨by first | exact Kd.R_nil _ _ _ _ _ | exact Kd.N_nil _ _ _ _ _ | exact Kd.V_nil _ _ _ _ _ | exact Kd.Q_nil _ _ _ _ _ | exact Kd.S_nil _ _ _ _ _⟩, ⟨by refine kb ?_; (iterate 3 (refine blk_far ?_ NB380_384.out _; refine kb ?_)); exact BK380.out⟩, ⟨by refine kb ?_; refine blk_put (cs := #[.int .i64 (Go.bits .and .i64 (t382 / 16) 255), .int .i64 (Go.bits .and .i64 t383 1048575), .int .i64 (wrap64 (bt a0 7)), .int .i64 (wrap64 (bt a0 6)), .bool t385, .int .u64 t386, .int .u64 t387, .bool t389, .int .u64 t390, .int .u64 0, .slice none 0 0, .bool false, .int .i64 0, .int .i64 0, .bool false, .string (⟨#[]⟩ : ByteArray)]) ?_ 9 _ rfl; refine kb ?_; refine blk_put (cs := #[.int .i64 (Go.bits .and .i64 (t382 / 16) 255), .int .i64 (Go.bits .and .i64 t383 1048575), .int .i64 (wrap64 (bt a0 7)), .int .i64 (wrap64 (bt a0 6)), .bool t385, .int .u64 t386, .int .u64 t387, .bool t389, .int .u64 0, .int .u64 0, .slice none 0 0, .bool false, .int .i64 0, .int .i64 0, .bool false, .string (⟨#[]⟩ : ByteArray)]) ?_ 8 _ rfl; refine kb ?_; refine blk_put (cs := #[.int .i64 (Go.bits .and .i64 (t382 / 16) 255), .int .i64 (Go.bits .and .i64 t383 1048575), .int .i64 (wrap64 (bt a0 7)), .int .i64 (wrap64 (bt a0 6)), .bool t385, .int .u64 t386, .int .u64 t387, .bool false, .int .u64 0, .int .u64 0, .slice none 0 0, .bool false, .int .i64 0, .int .i64 0, .bool false, .string (⟨#[]⟩ : ByteArray)]) ?_ 7 _ rfl; exact kb BK384.out⟩, ⟨kB2 HB.out GE380.out GE384.out⟩⟩
                 clear H'
                 try clear c2
                 try clear c2b0
                 try clear c2b1
                 try clear c4
                 try clear c4b0
                 try clear c4b1
                 try clear p5
                 try clear q5
                 try clear hx5
                 try clear qi5
                 try clear c6
                 try clear c6b0
                 try clear c6b1
                 try clear c7
                 try clear c7b0
                 try clear c7b1
                 try clear c8
                 try clear c8b0
                 try clear c8b1
                 try clear c10
                 try clear c10b0
                 try clear c12
                 try clear c12b0
                 try clear c12b1
                 try clear c13
                 try clear c13b0
                 try clear c13b1
                 try clear c15
                 try clear c15b0
                 try clear c15b1
                 try clear c16
                 try clear c16b0
                 try clear c16b1
                 try clear c18
                 try clear c18b0
                 try clear c18b1
                 try clear p19
                 try clear q19
                 try clear hx19
                 try clear qi19
                 try clear c20
                 try clear c20b0
                 try clear c20b1
                 try clear p21
                 try clear q21
                 try clear hx21
                 try clear qi21
                 try clear c22
                 try clear c22b0
                 try clear c22b1
                 try clear c23
                 try clear c23b0
                 try clear c23b1
                 try clear c25
                 try clear c25b0
                 try clear c25b1
                 try clear c26
                 try clear c26b0
                 try clear c26b1
                 try clear c28
                 try clear c28b0
                 try clear c28b1
                 try clear c29
                 try clear c29b0
                 try clear c29b1
                 try clear hcz52_0
                 try clear hcz54_0
                 try clear hfz52_0
                 try clear hfz54_0
                 obtain ⟨x6_1, x7_1, x381000_1, x381001_1, x381002_1, x381003_1, x381004_1, x381005_1, x381006_1, x381007_1, x381008_1, x381009_1, x381011_1, x381012_1, x381013_1, x381014_1, x381015_1, x385003_1, x385010_1, x385011_1, x385012_1, x385013_1, x385014_1, u385010, rfl, rfl, HA, HK1, HO_385010, BK380, BK384, HB⟩ := hrel
                 cases gk with
                 | zero => exact absurd HA.out (by simp [intrusionref12_Decode.l0])
                 | succ k1 =>
                  have H := HA.out
                  clear HA
                  simp only [intrusionref12_Decode.l0] at H
                  have HC55 := As H
                  clear H
                  go_upto_region 13 with (fail)
                  go_cut [69] (fun v69 wc => ∃ (kq : Nat) (x69_54 : Bool), v69 = .bool x69_54 ∧ Aside0 (intrusionref12_Decode.j1 kq x6_1 x7_1 x69_54 (Go.bits .and .i64 (t382 / 16) 255) (Go.bits .and .i64 t383 1048575) (wrap64 (bt a0 7)) x385003_1 t385 t386 t387 t389 t390 t391 x385010_1 x385011_1 x385012_1 x385013_1 x385014_1 (⟨#[]⟩ : ByteArray) = some (r1, r2, r3, r4, r5, r6, r7, r8, r9, r10, r11, r12, r13, r14, r15, r16, r17)) ∧ Aside0 (kq ≤ k1) ∧ Aside0 (Kd.R k60 60 wc w.heap.size (fun _ => True) u385010 x385010_1) ∧ Aside0 (wc.heap[gb380]? = some (.cells #[.int .i64 x381000_1, .int .i64 x381001_1, .int .i64 x381002_1, .int .i64 x381003_1, .bool x381004_1, .int .u64 x381005_1, .int .u64 x381006_1, .bool x381007_1, .int .u64 x381008_1, .int .u64 x381009_1, (.slice none 0 0), .bool x381011_1, .int .i64 x381012_1, .int .i64 x381013_1, .bool x381014_1, .string x381015_1] 28 (0, 0))) ∧ Aside0 (wc.heap[gb384]? = some (.cells #[.int .i64 (Go.bits .and .i64 (t382 / 16) 255), .int .i64 (Go.bits .and .i64 t383 1048575), .int .i64 (wrap64 (bt a0 7)), .int .i64 x385003_1, .bool t385, .int .u64 t386, .int .u64 t387, .bool t389, .int .u64 t390, .int .u64 t391, u385010, .bool x385011_1, .int .i64 x385012_1, .int .i64 x385013_1, .bool x385014_1, .string (⟨#[]⟩ : ByteArray)] 28 (0, 0))) ∧ Aside0 (Below w.heap.size w wc))
                  case first =>
                   have H := HC55.out
                   clear HC55
                   replace H := Option.bind_eq_some_iff.mp H
                   obtain ⟨t393, A560, H⟩ := H
                   replace H : (if t393 = true then (intrusionref12_Decode.j1 k1 x6_1 x7_1 true (Go.bits .and .i64 (t382 / 16) 255) (Go.bits .and .i64 t383 1048575) (wrap64 (bt a0 7)) x385003_1 t385 t386 t387 t389 t390 t391 x385010_1 x385011_1 x385012_1 x385013_1 x385014_1 (⟨#[]⟩ : ByteArray)) else (intrusionref12_Decode.j1 k1 x6_1 x7_1 (x385003_1 == 44) (Go.bits .and .i64 (t382 / 16) 255) (Go.bits .and .i64 t383 1048575) (wrap64 (bt a0 7)) x385003_1 t385 t386 t387 t389 t390 t391 x385010_1 x385011_1 x385012_1 x385013_1 x385014_1 (⟨#[]⟩ : ByteArray))) = some (r1, r2, r3, r4, r5, r6, r7, r8, r9, r10, r11, r12, r13, r14, r15, r16, r17) := H
                   have A56 := As A560
                   clear A560
                   by_cases c57 : t393 = true
                   ·subst c57
                    have H1 : (intrusionref12_Decode.j1 k1 x6_1 x7_1 true (Go.bits .and .i64 (t382 / 16) 255) (Go.bits .and .i64 t383 1048575) (wrap64 (bt a0 7)) x385003_1 t385 t386 t387 t389 t390 t391 x385010_1 x385011_1 x385012_1 x385013_1 x385014_1 (⟨#[]⟩ : ByteArray)) = some (r1, r2, r3, r4, r5, r6, r7, r8, r9, r10, r11, r12, r13, r14, r15, r16, r17) := by rw [if_pos rfl] at H; exact H
                    clear H
                    have H := H1
                    clear H1
                    have H' := As H
                    clear H
                    have hnb58 := NB384_380.out
                    have hnc58 := NB380_384.out
                    have hcz59_0 := cells_16 BK384.out
                    have hfz59_0 := fun j_ => blk_frozen BK384.out j_
                    go_wp2_with (first | ((with_reducible refine gate_callee (f := 33) rfl ?_); refine goesL_ (some 64) rfl rfl Try.func33 (by kernel_rfl) rfl #[.int .i64 x385003_1] rfl kA ?_; (with_reducible refine (intrusionref12_extension.calls x385003_1 true _ A56.out).mono ?_); rintro e w' ⟨rfl, ⟨nd, rfl⟩⟩; refine ⟨_, rfl, ?_⟩))
                    go_meet
                    case rel => exact ⟨_, (true), kS, H', ⟨by have := HK1.out; first | omega | exact Nat.le_refl _⟩, ⟨by (with_reducible repeat (first | apply Kd.R_alloc | apply Kd.R_drewN | apply Kd.R_drew)); exact HO_385010.out⟩, ⟨kb BK380.out⟩, ⟨kb BK384.out⟩, ⟨kB2 HB.out GE380.out GE384.out⟩⟩
                   replace c57 := Bool.eq_false_iff.mpr c57
                   subst c57
                   have H1 : (intrusionref12_Decode.j1 k1 x6_1 x7_1 (x385003_1 == 44) (Go.bits .and .i64 (t382 / 16) 255) (Go.bits .and .i64 t383 1048575) (wrap64 (bt a0 7)) x385003_1 t385 t386 t387 t389 t390 t391 x385010_1 x385011_1 x385012_1 x385013_1 x385014_1 (⟨#[]⟩ : ByteArray)) = some (r1, r2, r3, r4, r5, r6, r7, r8, r9, r10, r11, r12, r13, r14, r15, r16, r17) := by rw [if_neg (show ¬ (false = true) by decide)] at H; exact H
                   clear H
                   have H := H1
                   clear H1
                   have H' := As H
                   clear H
                   have hnb60 := NB384_380.out
                   have hnc60 := NB380_384.out
                   have hcz61_0 := cells_16 BK384.out
                   have hfz61_0 := fun j_ => blk_frozen BK384.out j_
                   go_wp2_with (first | ((with_reducible refine gate_callee (f := 33) rfl ?_); refine goesL_ (some 64) rfl rfl Try.func33 (by kernel_rfl) rfl #[.int .i64 x385003_1] rfl kA ?_; (with_reducible refine (intrusionref12_extension.calls x385003_1 false _ A56.out).mono ?_); rintro e w' ⟨rfl, ⟨nd, rfl⟩⟩; refine ⟨_, rfl, ?_⟩))
                   go_meet
                   case rel => exact ⟨_, ((x385003_1 == 44)), kS, H', ⟨by have := HK1.out; first | omega | exact Nat.le_refl _⟩, ⟨by (with_reducible repeat (first | apply Kd.R_alloc | apply Kd.R_drewN | apply Kd.R_drew)); exact HO_385010.out⟩, ⟨kb BK380.out⟩, ⟨kb BK384.out⟩, ⟨kB2 HB.out GE380.out GE384.out⟩⟩
                  clear HC55
                  obtain ⟨kq, x69_54, rfl, HA, HJ54, HO_385010, BK380, BK384, HB⟩ := hcut
                  cases kq with
                  | zero => exact absurd HA.out (by simp [intrusionref12_Decode.j1])
                  | succ kj54 =>
                   have H := HA.out
                   clear HA
                   simp only [intrusionref12_Decode.j1] at H
                   by_cases c62 : x69_54 = true
                   ·subst c62
                    have H1 : (if x385003_1 = 0 then (if x7_1 = true then (intrusionref12_Decode.j2 kj54 x6_1 x385011_1 (Go.bits .and .i64 (t382 / 16) 255) (Go.bits .and .i64 t383 1048575) (wrap64 (bt a0 7)) x385003_1 t385 t386 t387 t389 t390 t391 x385010_1 x385011_1 x385012_1 x385013_1 x385014_1 (⟨#[]⟩ : ByteArray)) else (intrusionref12_Decode.j2 kj54 x6_1 true (Go.bits .and .i64 (t382 / 16) 255) (Go.bits .and .i64 t383 1048575) (wrap64 (bt a0 7)) x385003_1 t385 t386 t387 t389 t390 t391 x385010_1 x385011_1 x385012_1 x385013_1 x385014_1 (⟨#[]⟩ : ByteArray))) else (intrusionref12_Decode.j2 kj54 x6_1 x385011_1 (Go.bits .and .i64 (t382 / 16) 255) (Go.bits .and .i64 t383 1048575) (wrap64 (bt a0 7)) x385003_1 t385 t386 t387 t389 t390 t391 x385010_1 x385011_1 x385012_1 x385013_1 x385014_1 (⟨#[]⟩ : ByteArray))) = some (r1, r2, r3, r4, r5, r6, r7, r8, r9, r10, r11, r12, r13, r14, r15, r16, r17) := by rw [if_pos rfl] at H; exact H
                    clear H
                    have H := H1
                    clear H1
                    have HC63 := As H
                    clear H
                    go_upto_region 15 with (fail)
                    go_cut [80] (fun v80 wc => ∃ (kq : Nat) (x80_62 : Bool), v80 = .bool x80_62 ∧ Aside0 (intrusionref12_Decode.j2 kq x6_1 x80_62 (Go.bits .and .i64 (t382 / 16) 255) (Go.bits .and .i64 t383 1048575) (wrap64 (bt a0 7)) x385003_1 t385 t386 t387 t389 t390 t391 x385010_1 x385011_1 x385012_1 x385013_1 x385014_1 (⟨#[]⟩ : ByteArray) = some (r1, r2, r3, r4, r5, r6, r7, r8, r9, r10, r11, r12, r13, r14, r15, r16, r17)) ∧ Aside0 (kq ≤ kj54) ∧ Aside0 (Kd.R k60 60 wc w.heap.size (fun _ => True) u385010 x385010_1) ∧ Aside0 (wc.heap[gb380]? = some (.cells #[.int .i64 x381000_1, .int .i64 x381001_1, .int .i64 x381002_1, .int .i64 x381003_1, .bool x381004_1, .int .u64 x381005_1, .int .u64 x381006_1, .bool x381007_1, .int .u64 x381008_1, .int .u64 x381009_1, (.slice none 0 0), .bool x381011_1, .int .i64 x381012_1, .int .i64 x381013_1, .bool x381014_1, .string x381015_1] 28 (0, 0))) ∧ Aside0 (wc.heap[gb384]? = some (.cells #[.int .i64 (Go.bits .and .i64 (t382 / 16) 255), .int .i64 (Go.bits .and .i64 t383 1048575), .int .i64 (wrap64 (bt a0 7)), .int .i64 x385003_1, .bool t385, .int .u64 t386, .int .u64 t387, .bool t389, .int .u64 t390, .int .u64 t391, u385010, .bool x385011_1, .int .i64 x385012_1, .int .i64 x385013_1, .bool x385014_1, .string (⟨#[]⟩ : ByteArray)] 28 (0, 0))) ∧ Aside0 (Below w.heap.size w wc))
                    case first =>
                     have H := HC63.out
                     clear HC63
                     by_cases c64 : x385003_1 = 0
                     ·rw [if_pos c64] at H
                      have c64b0 : (x385003_1 == 0) = true := beq_iff_eq.mpr c64
                      have c64b1 : (x385003_1 != 0) = false := bne_eq_false_iff_eq.mpr c64
                      clear c64
                      (first | rw [c64b0] | (simp only [i64_w, i32_w]; rw [c64b0]) | skip)
                      by_cases c65 : x7_1 = true
                      ·subst c65
                       have H1 : (intrusionref12_Decode.j2 kj54 x6_1 x385011_1 (Go.bits .and .i64 (t382 / 16) 255) (Go.bits .and .i64 t383 1048575) (wrap64 (bt a0 7)) x385003_1 t385 t386 t387 t389 t390 t391 x385010_1 x385011_1 x385012_1 x385013_1 x385014_1 (⟨#[]⟩ : ByteArray)) = some (r1, r2, r3, r4, r5, r6, r7, r8, r9, r10, r11, r12, r13, r14, r15, r16, r17) := by rw [if_pos rfl] at H; exact H
                       clear H
                       have H := H1
                       clear H1
                       have H' := As H
                       clear H
                       have hnb66 := NB384_380.out
                       have hnc66 := NB380_384.out
                       have hcz67_0 := cells_16 BK384.out
                       have hfz67_0 := fun j_ => blk_frozen BK384.out j_
                       go_wp2
                       go_meet
                       case rel => exact ⟨_, (x385011_1), kS, H', ⟨by have := HK1.out; have := HJ54.out; first | omega | exact Nat.le_refl _⟩, ⟨by (with_reducible repeat (first | apply Kd.R_alloc | apply Kd.R_drewN | apply Kd.R_drew)); exact HO_385010.out⟩, ⟨kb BK380.out⟩, ⟨kb BK384.out⟩, ⟨kB2 HB.out GE380.out GE384.out⟩⟩
                      replace c65 := Bool.eq_false_iff.mpr c65
                      subst c65
                      have H1 : (intrusionref12_Decode.j2 kj54 x6_1 true (Go.bits .and .i64 (t382 / 16) 255) (Go.bits .and .i64 t383 1048575) (wrap64 (bt a0 7)) x385003_1 t385 t386 t387 t389 t390 t391 x385010_1 x385011_1 x385012_1 x385013_1 x385014_1 (⟨#[]⟩ : ByteArray)) = some (r1, r2, r3, r4, r5, r6, r7, r8, r9, r10, r11, r12, r13, r14, r15, r16, r17) := by rw [if_neg (show ¬ (false = true) by decide)] at H; exact H
                      clear H
                      have H := H1
                      clear H1
                      have H' := As H
                      clear H
                      have hnb68 := NB384_380.out
                      have hnc68 := NB380_384.out
                      have hcz69_0 := cells_16 BK384.out
                      have hfz69_0 := fun j_ => blk_frozen BK384.out j_
                      go_wp2
                      go_meet
                      case rel => exact ⟨_, (true), kS, H', ⟨by have := HK1.out; have := HJ54.out; first | omega | exact Nat.le_refl _⟩, ⟨by (with_reducible repeat (first | apply Kd.R_alloc | apply Kd.R_drewN | apply Kd.R_drew)); exact HO_385010.out⟩, ⟨kb BK380.out⟩, ⟨kb BK384.out⟩, ⟨kB2 HB.out GE380.out GE384.out⟩⟩
                     rw [if_neg c64] at H
                     have c64b0 : (x385003_1 == 0) = false := beq_eq_false_iff_ne.mpr c64
                     have c64b1 : (x385003_1 != 0) = true := bne_iff_ne.mpr c64
                     (first | rw [c64b0] | (simp only [i64_w, i32_w]; rw [c64b0]) | skip)
                     have H' := As H
                     clear H
                     have hnb70 := NB384_380.out
                     have hnc70 := NB380_384.out
                     have hcz71_0 := cells_16 BK384.out
                     have hfz71_0 := fun j_ => blk_frozen BK384.out j_
                     go_wp2
                     go_meet
                     case rel => exact ⟨_, (x385011_1), kS, H', ⟨by have := HK1.out; have := HJ54.out; first | omega | exact Nat.le_refl _⟩, ⟨by (with_reducible repeat (first | apply Kd.R_alloc | apply Kd.R_drewN | apply Kd.R_drew)); exact HO_385010.out⟩, ⟨kb BK380.out⟩, ⟨kb BK384.out⟩, ⟨kB2 HB.out GE380.out GE384.out⟩⟩
                    clear HC63
                    try clear c62
                    obtain ⟨kq, x80_62, rfl, HA, HJ62, HO_385010, BK380, BK384, HB⟩ := hcut
                    cases kq with
                    | zero => exact absurd HA.out (by simp [intrusionref12_Decode.j2])
                    | succ kj62 =>
                     have H := HA.out
                     clear HA
                     simp only [intrusionref12_Decode.j2] at H
                     by_cases c72 : x80_62 = true
                     ·subst c72
                      have H1 : (some (0, 0, 0, 0, false, 0, 0, false, 0, 0, ([] : List (S60)), false, 0, 0, false, (⟨#[]⟩ : ByteArray), 2)) = some (r1, r2, r3, r4, r5, r6, r7, r8, r9, r10, r11, r12, r13, r14, r15, r16, r17) := by rw [if_pos rfl] at H; exact H
                      clear H
                      have H := H1
                      clear H1
                      simp only [Option.some.injEq, Prod.mk.injEq] at H
                      obtain ⟨rfl, rfl, rfl, rfl, rfl, rfl, rfl, rfl, rfl, rfl, rfl, rfl, rfl, rfl, rfl, rfl, rfl⟩ := H
                      go_wp2_with (first | ((with_reducible refine gate_store (t := 28) (p := 2) rfl ?_); refine store_rowev_16 gb380 (.int .i64 0) (.int .i64 0) (.int .i64 0) (.int .i64 0) (.bool false) (.int .u64 0) (.int .u64 0) (.bool false) (.int .u64 0) (.int .u64 0) (.slice none 0 0) (.bool false) (.int .i64 0) (.int .i64 0) (.bool false) (.string (⟨#[]⟩ : ByteArray)) rfl (t := 28) (p := 2) (v := _) rfl rfl rfl rfl (t' := 28) (kb BK380.out) (by rfl) (by kernel_rfl) (by rfl) ?_))
                      refine bodyPost_ret (results_ct rfl _ _ gb380 28 #[.int .i64 0, .int .i64 0, .int .i64 0, .int .i64 0, .bool false, .int .u64 0, .int .u64 0, .bool false, .int .u64 0, .int .u64 0, .slice none 0 0, .bool false, .int .i64 0, .int .i64 0, .bool false, .string (⟨#[]⟩ : ByteArray)] (0, 0) _ rfl (by refine kb ?_; exact blk_all_16 (kb BK380.out) (by rfl)) Try.underlying28 rfl (by kernel_rfl)) rfl ?_
                      exact ⟨_, kE, by first | exact Kd.R_nil _ _ _ _ _ | exact Kd.N_nil _ _ _ _ _ | exact Kd.V_nil _ _ _ _ _ | exact Kd.Q_nil _ _ _ _ _ | exact Kd.S_nil _ _ _ _ _, by exact kB2 HB.out GE380.out GE384.out⟩
                     replace c72 := Bool.eq_false_iff.mpr c72
                     subst c72
                     have H1 : (if x385003_1 = 44 then (intrusionref12_Decode.j3 kj62 x6_1 false (Go.bits .and .i64 (t382 / 16) 255) (Go.bits .and .i64 t383 1048575) (wrap64 (bt a0 7)) x385003_1 t385 t386 t387 t389 t390 t391 x385010_1 x385011_1 x385012_1 x385013_1 x385014_1 (⟨#[]⟩ : ByteArray)) else (intrusionref12_Decode.j3 kj62 x6_1 ((x385010_1.length : Int) == 8) (Go.bits .and .i64 (t382 / 16) 255) (Go.bits .and .i64 t383 1048575) (wrap64 (bt a0 7)) x385003_1 t385 t386 t387 t389 t390 t391 x385010_1 x385011_1 x385012_1 x385013_1 x385014_1 (⟨#[]⟩ : ByteArray))) = some (r1, r2, r3, r4, r5, r6, r7, r8, r9, r10, r11, r12, r13, r14, r15, r16, r17) := by rw [if_neg (show ¬ (false = true) by decide)] at H; exact H
                     clear H
                     have H := H1
                     clear H1
                     have HC73 := As H
                     clear H
                     go_upto_region 17 with (fail)
                     go_cut [90] (fun v90 wc => ∃ (kq : Nat) (x90_72 : Bool), v90 = .bool x90_72 ∧ Aside0 (intrusionref12_Decode.j3 kq x6_1 x90_72 (Go.bits .and .i64 (t382 / 16) 255) (Go.bits .and .i64 t383 1048575) (wrap64 (bt a0 7)) x385003_1 t385 t386 t387 t389 t390 t391 x385010_1 x385011_1 x385012_1 x385013_1 x385014_1 (⟨#[]⟩ : ByteArray) = some (r1, r2, r3, r4, r5, r6, r7, r8, r9, r10, r11, r12, r13, r14, r15, r16, r17)) ∧ Aside0 (kq ≤ kj62) ∧ Aside0 (Kd.R k60 60 wc w.heap.size (fun _ => True) u385010 x385010_1) ∧ Aside0 (wc.heap[gb380]? = some (.cells #[.int .i64 x381000_1, .int .i64 x381001_1, .int .i64 x381002_1, .int .i64 x381003_1, .bool x381004_1, .int .u64 x381005_1, .int .u64 x381006_1, .bool x381007_1, .int .u64 x381008_1, .int .u64 x381009_1, (.slice none 0 0), .bool x381011_1, .int .i64 x381012_1, .int .i64 x381013_1, .bool x381014_1, .string x381015_1] 28 (0, 0))) ∧ Aside0 (wc.heap[gb384]? = some (.cells #[.int .i64 (Go.bits .and .i64 (t382 / 16) 255), .int .i64 (Go.bits .and .i64 t383 1048575), .int .i64 (wrap64 (bt a0 7)), .int .i64 x385003_1, .bool t385, .int .u64 t386, .int .u64 t387, .bool t389, .int .u64 t390, .int .u64 t391, u385010, .bool x385011_1, .int .i64 x385012_1, .int .i64 x385013_1, .bool x385014_1, .string (⟨#[]⟩ : ByteArray)] 28 (0, 0))) ∧ Aside0 (Below w.heap.size w wc))
                     case first =>
                      have H := HC73.out
                      clear HC73
                      by_cases c74 : x385003_1 = 44
                      ·rw [if_pos c74] at H
                       have c74b0 : (x385003_1 == 44) = true := beq_iff_eq.mpr c74
                       have c74b1 : (x385003_1 != 44) = false := bne_eq_false_iff_eq.mpr c74
                       clear c74
                       (first | rw [c74b0] | (simp only [i64_w, i32_w]; rw [c74b0]) | skip)
                       have H' := As H
                       clear H
                       have hnb75 := NB384_380.out
                       have hnc75 := NB380_384.out
                       have hcz76_0 := cells_16 BK384.out
                       have hfz76_0 := fun j_ => blk_frozen BK384.out j_
                       go_wp2
                       go_meet
                       case rel => exact ⟨_, (false), kS, H', ⟨by have := HK1.out; have := HJ54.out; have := HJ62.out; first | omega | exact Nat.le_refl _⟩, ⟨by (with_reducible repeat (first | apply Kd.R_alloc | apply Kd.R_drewN | apply Kd.R_drew)); exact HO_385010.out⟩, ⟨kb BK380.out⟩, ⟨kb BK384.out⟩, ⟨kB2 HB.out GE380.out GE384.out⟩⟩
                      rw [if_neg c74] at H
                      have c74b0 : (x385003_1 == 44) = false := beq_eq_false_iff_ne.mpr c74
                      have c74b1 : (x385003_1 != 44) = true := bne_iff_ne.mpr c74
                      (first | rw [c74b0] | (simp only [i64_w, i32_w]; rw [c74b0]) | skip)
                      have H' := As H
                      clear H
                      have hnb77 := NB384_380.out
                      have hnc77 := NB380_384.out
                      have hcz78_0 := cells_16 BK384.out
                      have hfz78_0 := fun j_ => blk_frozen BK384.out j_
                      obtain ⟨Ao79, co79, eo79⟩ := Kd.R_slice HO_385010.out
                      subst eo79
                      go_wp2
                      go_meet
                      case rel => exact ⟨_, (((x385010_1.length : Int) == 8)), kS, H', ⟨by have := HK1.out; have := HJ54.out; have := HJ62.out; first | omega | exact Nat.le_refl _⟩, ⟨by (with_reducible repeat (first | apply Kd.R_alloc | apply Kd.R_drewN | apply Kd.R_drew)); exact HO_385010.out⟩, ⟨kb BK380.out⟩, ⟨kb BK384.out⟩, ⟨kB2 HB.out GE380.out GE384.out⟩⟩
                     clear HC73
                     try clear c72
                     obtain ⟨kq, x90_72, rfl, HA, HJ72, HO_385010, BK380, BK384, HB⟩ := hcut
                     cases kq with
                     | zero => exact absurd HA.out (by simp [intrusionref12_Decode.j3])
                     | succ kj72 =>
                      have H := HA.out
                      clear HA
                      simp only [intrusionref12_Decode.j3] at H
                      by_cases c80 : x90_72 = true
                      ·subst c80
                       have H1 : (some (0, 0, 0, 0, false, 0, 0, false, 0, 0, ([] : List (S60)), false, 0, 0, false, (⟨#[]⟩ : ByteArray), 9)) = some (r1, r2, r3, r4, r5, r6, r7, r8, r9, r10, r11, r12, r13, r14, r15, r16, r17) := by rw [if_pos rfl] at H; exact H
                       clear H
                       have H := H1
                       clear H1
                       simp only [Option.some.injEq, Prod.mk.injEq] at H
                       obtain ⟨rfl, rfl, rfl, rfl, rfl, rfl, rfl, rfl, rfl, rfl, rfl, rfl, rfl, rfl, rfl, rfl, rfl⟩ := H
                       go_wp2_with (first | ((with_reducible refine gate_store (t := 28) (p := 2) rfl ?_); refine store_rowev_16 gb380 (.int .i64 0) (.int .i64 0) (.int .i64 0) (.int .i64 0) (.bool false) (.int .u64 0) (.int .u64 0) (.bool false) (.int .u64 0) (.int .u64 0) (.slice none 0 0) (.bool false) (.int .i64 0) (.int .i64 0) (.bool false) (.string (⟨#[]⟩ : ByteArray)) rfl (t := 28) (p := 2) (v := _) rfl rfl rfl rfl (t' := 28) (kb BK380.out) (by rfl) (by kernel_rfl) (by rfl) ?_))
                       refine bodyPost_ret (results_ct rfl _ _ gb380 28 #[.int .i64 0, .int .i64 0, .int .i64 0, .int .i64 0, .bool false, .int .u64 0, .int .u64 0, .bool false, .int .u64 0, .int .u64 0, .slice none 0 0, .bool false, .int .i64 0, .int .i64 0, .bool false, .string (⟨#[]⟩ : ByteArray)] (0, 0) _ rfl (by refine kb ?_; exact blk_all_16 (kb BK380.out) (by rfl)) Try.underlying28 rfl (by kernel_rfl)) rfl ?_
                       exact ⟨_, kE, by first | exact Kd.R_nil _ _ _ _ _ | exact Kd.N_nil _ _ _ _ _ | exact Kd.V_nil _ _ _ _ _ | exact Kd.Q_nil _ _ _ _ _ | exact Kd.S_nil _ _ _ _ _, by exact kB2 HB.out GE380.out GE384.out⟩
                      replace c80 := Bool.eq_false_iff.mpr c80
                      subst c80
                      have H1 : (if (x6_1.size : Int) < 8 then (intrusionref12_Decode.j4 kj72 x6_1 true (Go.bits .and .i64 (t382 / 16) 255) (Go.bits .and .i64 t383 1048575) (wrap64 (bt a0 7)) x385003_1 t385 t386 t387 t389 t390 t391 x385010_1 x385011_1 x385012_1 x385013_1 x385014_1 (⟨#[]⟩ : ByteArray)) else (if x385003_1 = 44 then (intrusionref12_Decode.j4 kj72 x6_1 false (Go.bits .and .i64 (t382 / 16) 255) (Go.bits .and .i64 t383 1048575) (wrap64 (bt a0 7)) x385003_1 t385 t386 t387 t389 t390 t391 x385010_1 x385011_1 x385012_1 x385013_1 x385014_1 (⟨#[]⟩ : ByteArray)) else (if 1 < (x6_1.size : Int) then (intrusionref12_Decode.j4 kj72 x6_1 (decide ((x6_1.size : Int) < (8 + (8 * (bt x6_1 1))))) (Go.bits .and .i64 (t382 / 16) 255) (Go.bits .and .i64 t383 1048575) (wrap64 (bt a0 7)) x385003_1 t385 t386 t387 t389 t390 t391 x385010_1 x385011_1 x385012_1 x385013_1 x385014_1 (⟨#[]⟩ : ByteArray)) else (none)))) = some (r1, r2, r3, r4, r5, r6, r7, r8, r9, r10, r11, r12, r13, r14, r15, r16, r17) := by rw [if_neg (show ¬ (false = true) by decide)] at H; exact H
                      clear H
                      have H := H1
                      clear H1
                      have HC81 := As H
                      clear H
                      go_upto_region 19 with (fail)
                      go_cut [109] (fun v109 wc => ∃ (kq : Nat) (x109_80 : Bool), v109 = .bool x109_80 ∧ Aside0 (intrusionref12_Decode.j4 kq x6_1 x109_80 (Go.bits .and .i64 (t382 / 16) 255) (Go.bits .and .i64 t383 1048575) (wrap64 (bt a0 7)) x385003_1 t385 t386 t387 t389 t390 t391 x385010_1 x385011_1 x385012_1 x385013_1 x385014_1 (⟨#[]⟩ : ByteArray) = some (r1, r2, r3, r4, r5, r6, r7, r8, r9, r10, r11, r12, r13, r14, r15, r16, r17)) ∧ Aside0 (kq ≤ kj72) ∧ Aside0 (Kd.R k60 60 wc w.heap.size (fun _ => True) u385010 x385010_1) ∧ Aside0 (wc.heap[gb380]? = some (.cells #[.int .i64 x381000_1, .int .i64 x381001_1, .int .i64 x381002_1, .int .i64 x381003_1, .bool x381004_1, .int .u64 x381005_1, .int .u64 x381006_1, .bool x381007_1, .int .u64 x381008_1, .int .u64 x381009_1, (.slice none 0 0), .bool x381011_1, .int .i64 x381012_1, .int .i64 x381013_1, .bool x381014_1, .string x381015_1] 28 (0, 0))) ∧ Aside0 (wc.heap[gb384]? = some (.cells #[.int .i64 (Go.bits .and .i64 (t382 / 16) 255), .int .i64 (Go.bits .and .i64 t383 1048575), .int .i64 (wrap64 (bt a0 7)), .int .i64 x385003_1, .bool t385, .int .u64 t386, .int .u64 t387, .bool t389, .int .u64 t390, .int .u64 t391, u385010, .bool x385011_1, .int .i64 x385012_1, .int .i64 x385013_1, .bool x385014_1, .string (⟨#[]⟩ : ByteArray)] 28 (0, 0))) ∧ Aside0 (Below w.heap.size w wc))
                      case first =>
                       have H := HC81.out
                       clear HC81
                       by_cases c82 : (x6_1.size : Int) < 8
                       ·rw [if_pos c82] at H
                        have c82b0 : decide ((x6_1.size : Int) < 8) = true := decide_eq_true c82
                        have c82b1 : decide (x6_1.size < 8) = true := decide_eq_true (by omega)
                        clear c82
                        (first | rw [c82b0] | (simp only [i64_w, i32_w]; rw [c82b0]) | skip)
                        have H' := As H
                        clear H
                        go_wp2
                        go_meet
                        case rel => exact ⟨_, (true), kS, H', ⟨by have := HK1.out; have := HJ54.out; have := HJ62.out; have := HJ72.out; first | omega | exact Nat.le_refl _⟩, ⟨by (with_reducible repeat (first | apply Kd.R_alloc | apply Kd.R_drewN | apply Kd.R_drew)); exact HO_385010.out⟩, ⟨kb BK380.out⟩, ⟨kb BK384.out⟩, ⟨kB2 HB.out GE380.out GE384.out⟩⟩
                       rw [if_neg c82] at H
                       have c82b0 : decide ((x6_1.size : Int) < 8) = false := decide_eq_false c82
                       have c82b1 : decide (x6_1.size < 8) = false := decide_eq_false (by omega)
                       clear c82
                       (first | rw [c82b0] | (simp only [i64_w, i32_w]; rw [c82b0]) | skip)
                       by_cases c83 : x385003_1 = 44
                       ·rw [if_pos c83] at H
                        have c83b0 : (x385003_1 == 44) = true := beq_iff_eq.mpr c83
                        have c83b1 : (x385003_1 != 44) = false := bne_eq_false_iff_eq.mpr c83
                        clear c83
                        have H' := As H
                        clear H
                        have hnb84 := NB384_380.out
                        have hnc84 := NB380_384.out
                        have hcz85_0 := cells_16 BK384.out
                        have hfz85_0 := fun j_ => blk_frozen BK384.out j_
                        go_wp2
                        go_meet
                        case rel => exact ⟨_, (false), kS, H', ⟨by have := HK1.out; have := HJ54.out; have := HJ62.out; have := HJ72.out; first | omega | exact Nat.le_refl _⟩, ⟨by (with_reducible repeat (first | apply Kd.R_alloc | apply Kd.R_drewN | apply Kd.R_drew)); exact HO_385010.out⟩, ⟨kb BK380.out⟩, ⟨kb BK384.out⟩, ⟨kB2 HB.out GE380.out GE384.out⟩⟩
                       rw [if_neg c83] at H
                       have c83b0 : (x385003_1 == 44) = false := beq_eq_false_iff_ne.mpr c83
                       have c83b1 : (x385003_1 != 44) = true := bne_iff_ne.mpr c83
                       by_cases c86 : 1 < (x6_1.size : Int)
                       ·rw [if_pos c86] at H
                        have c86b0 : decide (1 < (x6_1.size : Int)) = true := decide_eq_true c86
                        have c86b1 : decide (1 < x6_1.size) = true := decide_eq_true (by omega)
                        clear c86
                        have H' := As H
                        clear H
                        have hnb88 := NB384_380.out
                        have hnc88 := NB380_384.out
                        have hcz89_0 := cells_16 BK384.out
                        have hfz89_0 := fun j_ => blk_frozen BK384.out j_
                        have p87 : 0 ≤ (1 : Int) := (by omega)
                        have q87 : 1 < x6_1.size := (by have : (1 : Int) < (x6_1.size : Int) := of_decide_eq_true (by first | (with_reducible assumption) | assumption); omega)
                        have hx87 : ∀ h : 1 < x6_1.size, ((x6_1[1]'h).toNat : Int) = bt x6_1 1 := bt_at x6_1 1
                        clear p87
                        have qi87 : (1 < (x6_1.size : Int)) = True := eq_true (of_decide_eq_true (by first | (with_reducible assumption) | assumption))
                        replace q87 := eq_true q87
                        have hbl87 := (bt_range x6_1 1).1
                        have hbu87 := (bt_range x6_1 1).2
                        go_wp2
                        go_meet
                        case rel => exact ⟨_, (decide ((x6_1.size : Int) < (8 + (8 * (bt x6_1 1))))), kS, H', ⟨by have := HK1.out; have := HJ54.out; have := HJ62.out; have := HJ72.out; first | omega | exact Nat.le_refl _⟩, ⟨by (with_reducible repeat (first | apply Kd.R_alloc | apply Kd.R_drewN | apply Kd.R_drew)); exact HO_385010.out⟩, ⟨kb BK380.out⟩, ⟨kb BK384.out⟩, ⟨kB2 HB.out GE380.out GE384.out⟩⟩
                       rw [if_neg c86] at H
                       exact absurd H (by simp)
                      clear HC81
                      try clear c80
                      obtain ⟨kq, x109_80, rfl, HA, HJ80, HO_385010, BK380, BK384, HB⟩ := hcut
                      cases kq with
                      | zero => exact absurd HA.out (by simp [intrusionref12_Decode.j4])
                      | succ kj80 =>
                       have H := HA.out
                       clear HA
                       simp only [intrusionref12_Decode.j4] at H
                       by_cases c90 : x109_80 = true
                       ·subst c90
                        have H1 : (some (0, 0, 0, 0, false, 0, 0, false, 0, 0, ([] : List (S60)), false, 0, 0, false, (⟨#[]⟩ : ByteArray), 1)) = some (r1, r2, r3, r4, r5, r6, r7, r8, r9, r10, r11, r12, r13, r14, r15, r16, r17) := by rw [if_pos rfl] at H; exact H
                        clear H
                        have H := H1
                        clear H1
                        simp only [Option.some.injEq, Prod.mk.injEq] at H
                        obtain ⟨rfl, rfl, rfl, rfl, rfl, rfl, rfl, rfl, rfl, rfl, rfl, rfl, rfl, rfl, rfl, rfl, rfl⟩ := H
                        go_wp2_with (first | ((with_reducible refine gate_store (t := 28) (p := 2) rfl ?_); refine store_rowev_16 gb380 (.int .i64 0) (.int .i64 0) (.int .i64 0) (.int .i64 0) (.bool false) (.int .u64 0) (.int .u64 0) (.bool false) (.int .u64 0) (.int .u64 0) (.slice none 0 0) (.bool false) (.int .i64 0) (.int .i64 0) (.bool false) (.string (⟨#[]⟩ : ByteArray)) rfl (t := 28) (p := 2) (v := _) rfl rfl rfl rfl (t' := 28) (kb BK380.out) (by rfl) (by kernel_rfl) (by rfl) ?_))
                        refine bodyPost_ret (results_ct rfl _ _ gb380 28 #[.int .i64 0, .int .i64 0, .int .i64 0, .int .i64 0, .bool false, .int .u64 0, .int .u64 0, .bool false, .int .u64 0, .int .u64 0, .slice none 0 0, .bool false, .int .i64 0, .int .i64 0, .bool false, .string (⟨#[]⟩ : ByteArray)] (0, 0) _ rfl (by refine kb ?_; exact blk_all_16 (kb BK380.out) (by rfl)) Try.underlying28 rfl (by kernel_rfl)) rfl ?_
                        exact ⟨_, kE, by first | exact Kd.R_nil _ _ _ _ _ | exact Kd.N_nil _ _ _ _ _ | exact Kd.V_nil _ _ _ _ _ | exact Kd.Q_nil _ _ _ _ _ | exact Kd.S_nil _ _ _ _ _, by exact kB2 HB.out GE380.out GE384.out⟩
                       replace c90 := Bool.eq_false_iff.mpr c90
                       subst c90
                       have H1 : (if 0 < (x6_1.size : Int) then (if x385003_1 = 44 then (if 2 ≤ 4 then (if 4 ≤ (x6_1.size : Int) then ((intrusionref12_number.f kj80 (x6_1.extract 2 4)).bind fun t394 => (if 3 < (x6_1.size : Int) then (if 4 ≤ 8 then (if 8 ≤ (x6_1.size : Int) then ((intrusionref12_number.f kj80 (x6_1.extract 4 8)).bind fun t395 => (intrusionref12_Decode.l0 kj80 (x6_1.extract 8 x6_1.size) false (Go.bits .and .i64 (t382 / 16) 255) (Go.bits .and .i64 t383 1048575) (wrap64 (bt a0 7)) (bt x6_1 0) t385 t386 t387 t389 t390 t391 x385010_1 true t395 (wrap64 ((t394 / 8) * 8)) ((Go.bits .and .u8 (bt x6_1 3) 1) == 1) (⟨#[]⟩ : ByteArray))) else (none)) else (none)) else (none))) else (none)) else (none)) else (if 1 < (x6_1.size : Int) then (if 2 ≤ (8 + (8 * (bt x6_1 1))) then (if (8 + (8 * (bt x6_1 1))) ≤ (x6_1.size : Int) then (if x385010_1.length < 5864062014805 then (if 0 ≤ (8 + (8 * (bt x6_1 1))) then (intrusionref12_Decode.l0 kj80 (x6_1.extract ((8 + (8 * (bt x6_1 1))) : Int).toNat x6_1.size) false (Go.bits .and .i64 (t382 / 16) 255) (Go.bits .and .i64 t383 1048575) (wrap64 (bt a0 7)) (bt x6_1 0) t385 t386 t387 t389 t390 t391 (x385010_1 ++ [(⟨x385003_1, x6_1.extract 2 ((8 + (8 * (bt x6_1 1))) : Int).toNat⟩ : S60)]) x385011_1 x385012_1 x385013_1 x385014_1 (⟨#[]⟩ : ByteArray)) else (none)) else (none)) else (none)) else (none)) else (none))) else (none)) = some (r1, r2, r3, r4, r5, r6, r7, r8, r9, r10, r11, r12, r13, r14, r15, r16, r17) := by rw [if_neg (show ¬ (false = true) by decide)] at H; exact H
                       clear H
                       have H := H1
                       clear H1
                       by_cases c91 : 0 < (x6_1.size : Int)
                       ·rw [if_pos c91] at H
                        have c91b0 : decide (0 < (x6_1.size : Int)) = true := decide_eq_true c91
                        have c91b1 : decide (0 < x6_1.size) = true := decide_eq_true (by omega)
                        clear c91
                        by_cases c93 : x385003_1 = 44
                        ·rw [if_pos c93] at H
                         have c93b0 : (x385003_1 == 44) = true := beq_iff_eq.mpr c93
                         have c93b1 : (x385003_1 != 44) = false := bne_eq_false_iff_eq.mpr c93
                         clear c93
                         by_cases c94 : 2 ≤ 4
                         ·rw [if_pos c94] at H
                          have c94b0 := eq_true c94
                          have c94b1 : decide (2 ≤ 4) = true := decide_eq_true c94
                          clear c94
                          by_cases c95 : 4 ≤ (x6_1.size : Int)
                          ·rw [if_pos c95] at H
                           have c95b0 := eq_true c95
                           have c95b1 : decide (4 ≤ (x6_1.size : Int)) = true := decide_eq_true c95
                           clear c95
                           replace H := Option.bind_eq_some_iff.mp H
                           obtain ⟨t394, A960, H⟩ := H
                           replace H : (if 3 < (x6_1.size : Int) then (if 4 ≤ 8 then (if 8 ≤ (x6_1.size : Int) then ((intrusionref12_number.f kj80 (x6_1.extract 4 8)).bind fun t395 => (intrusionref12_Decode.l0 kj80 (x6_1.extract 8 x6_1.size) false (Go.bits .and .i64 (t382 / 16) 255) (Go.bits .and .i64 t383 1048575) (wrap64 (bt a0 7)) (bt x6_1 0) t385 t386 t387 t389 t390 t391 x385010_1 true t395 (wrap64 ((t394 / 8) * 8)) ((Go.bits .and .u8 (bt x6_1 3) 1) == 1) (⟨#[]⟩ : ByteArray))) else (none)) else (none)) else (none)) = some (r1, r2, r3, r4, r5, r6, r7, r8, r9, r10, r11, r12, r13, r14, r15, r16, r17) := H
                           have A96 := As A960
                           clear A960
                           by_cases c97 : 3 < (x6_1.size : Int)
                           ·rw [if_pos c97] at H
                            have c97b0 : decide (3 < (x6_1.size : Int)) = true := decide_eq_true c97
                            have c97b1 : decide (3 < x6_1.size) = true := decide_eq_true (by omega)
                            clear c97
                            by_cases c99 : 4 ≤ 8
                            ·rw [if_pos c99] at H
                             have c99b0 := eq_true c99
                             have c99b1 : decide (4 ≤ 8) = true := decide_eq_true c99
                             clear c99
                             by_cases c100 : 8 ≤ (x6_1.size : Int)
                             ·rw [if_pos c100] at H
                              have c100b0 := eq_true c100
                              have c100b1 : decide (8 ≤ (x6_1.size : Int)) = true := decide_eq_true c100
                              clear c100
                              replace H := Option.bind_eq_some_iff.mp H
                              obtain ⟨t395, A1010, H⟩ := H
                              replace H : (intrusionref12_Decode.l0 kj80 (x6_1.extract 8 x6_1.size) false (Go.bits .and .i64 (t382 / 16) 255) (Go.bits .and .i64 t383 1048575) (wrap64 (bt a0 7)) (bt x6_1 0) t385 t386 t387 t389 t390 t391 x385010_1 true t395 (wrap64 ((t394 / 8) * 8)) ((Go.bits .and .u8 (bt x6_1 3) 1) == 1) (⟨#[]⟩ : ByteArray)) = some (r1, r2, r3, r4, r5, r6, r7, r8, r9, r10, r11, r12, r13, r14, r15, r16, r17) := H
                              have A101 := As A1010
                              clear A1010
                              have c102b0 := eq_true (of_decide_eq_true (by first | (with_reducible assumption) | assumption) : 8 ≤ (x6_1.size : Int))
                              have H' := As H
                              clear H
                              have p92 : 0 ≤ (0 : Int) := (by omega)
                              have q92 : 0 < x6_1.size := (by have : (0 : Int) < (x6_1.size : Int) := of_decide_eq_true (by first | (with_reducible assumption) | assumption); omega)
                              have hx92 : ∀ h : 0 < x6_1.size, ((x6_1[0]'h).toNat : Int) = bt x6_1 0 := bt_at x6_1 0
                              clear p92
                              have qi92 : (0 < (x6_1.size : Int)) = True := eq_true (of_decide_eq_true (by first | (with_reducible assumption) | assumption))
                              replace q92 := eq_true q92
                              have hbl92 := (bt_range x6_1 0).1
                              have hbu92 := (bt_range x6_1 0).2
                              have hnb103 := NB384_380.out
                              have hnc103 := NB380_384.out
                              have hcz104_0 := cells_16 BK384.out
                              have hfz104_0 := fun j_ => blk_frozen BK384.out j_
                              go_wp2_with (first | ((with_reducible refine gate_callee (f := 31) rfl ?_); refine goesL_ (some 120) rfl rfl Try.func31 (by kernel_rfl) rfl #[.string (x6_1.extract 2 4)] rfl kA ?_; (with_reducible refine (intrusionref12_number.calls kj80 (x6_1.extract 2 4) t394 _ A96.out).mono ?_); rintro e w' ⟨rfl, ⟨nd, rfl⟩⟩; refine ⟨_, rfl, ?_⟩; have p98 : 0 ≤ (3 : Int) := (by omega); have q98 : 3 < x6_1.size := (by have : (3 : Int) < (x6_1.size : Int) := of_decide_eq_true (by first | (with_reducible assumption) | assumption); omega); have hx98 : ∀ h : 3 < x6_1.size, ((x6_1[3]'h).toNat : Int) = bt x6_1 3 := bt_at x6_1 3; clear p98; have qi98 : (3 < (x6_1.size : Int)) = True := eq_true (of_decide_eq_true (by first | (with_reducible assumption) | assumption)); replace q98 := eq_true q98; have hbl98 := (bt_range x6_1 3).1; have hbu98 := (bt_range x6_1 3).2) | ((with_reducible refine gate_callee (f := 31) rfl ?_); refine goesL_ (some 131) rfl rfl Try.func31 (by kernel_rfl) rfl #[.string (x6_1.extract 4 8)] rfl kA ?_; (with_reducible refine (intrusionref12_number.calls kj80 (x6_1.extract 4 8) t395 _ A101.out).mono ?_); rintro e w' ⟨rfl, ⟨nd, rfl⟩⟩; refine ⟨_, rfl, ?_⟩))
                              go_roundg kj80
                              case measure => have := HK1.out; have := HJ54.out; have := HJ62.out; have := HJ72.out; have := HJ80.out; omega
                              case rel => exact ⟨(x6_1.extract 8 x6_1.size), (false), (x381000_1), (x381001_1), (x381002_1), (x381003_1), (x381004_1), (x381005_1), (x381006_1), (x381007_1), (x381008_1), (x381009_1), (x381011_1), (x381012_1), (x381013_1), (x381014_1), (x381015_1), (bt x6_1 0), (x385010_1), (true), (t395), (wrap64 ((t394 / 8) * 8)), (((Go.bits .and .u8 (bt x6_1 3) 1) == 1)), (u385010), kS, kS, H', ⟨by have := HK1.out; have := HJ54.out; have := HJ62.out; have := HJ72.out; have := HJ80.out; omega⟩, ⟨by (with_reducible repeat (first | apply Kd.R_alloc | apply Kd.R_drewN | apply Kd.R_drew)); exact Kd.R_mono (Kd.R_far (p := ⟨gb384, 3, none⟩) (Kd.R_far (p := ⟨gb384, 12, none⟩) (Kd.R_far (p := ⟨gb384, 14, none⟩) (Kd.R_far (p := ⟨gb384, 13, none⟩) (Kd.R_far (p := ⟨gb384, 11, none⟩) (Kd.R_types HO_385010.out BK384.out (by decide)) (fun _ hk => hk.2) (.bool true)) (fun _ hk => hk.2) (.int .i64 (wrap64 ((t394 / 8) * 8)))) (fun _ hk => hk.2) (.bool ((Go.bits .and .u8 (bt x6_1 3) 1) == 1))) (fun _ hk => hk.2) (.int .i64 t395)) (fun _ hk => hk.2) (.int .i64 (bt x6_1 0))) (fun _ hk => trivial)⟩, ⟨by refine kb ?_; (iterate 5 (refine blk_far ?_ NB380_384.out _; refine kb ?_)); exact BK380.out⟩, ⟨by refine kb ?_; refine blk_put (cs := #[.int .i64 (Go.bits .and .i64 (t382 / 16) 255), .int .i64 (Go.bits .and .i64 t383 1048575), .int .i64 (wrap64 (bt a0 7)), .int .i64 x385003_1, .bool t385, .int .u64 t386, .int .u64 t387, .bool t389, .int .u64 t390, .int .u64 t391, u385010, .bool true, .int .i64 t395, .int .i64 (wrap64 ((t394 / 8) * 8)), .bool ((Go.bits .and .u8 (bt x6_1 3) 1) == 1), .string (⟨#[]⟩ : ByteArray)]) ?_ 3 _ rfl; refine kb ?_; refine blk_put (cs := #[.int .i64 (Go.bits .and .i64 (t382 / 16) 255), .int .i64 (Go.bits .and .i64 t383 1048575), .int .i64 (wrap64 (bt a0 7)), .int .i64 x385003_1, .bool t385, .int .u64 t386, .int .u64 t387, .bool t389, .int .u64 t390, .int .u64 t391, u385010, .bool true, .int .i64 x385012_1, .int .i64 (wrap64 ((t394 / 8) * 8)), .bool ((Go.bits .and .u8 (bt x6_1 3) 1) == 1), .string (⟨#[]⟩ : ByteArray)]) ?_ 12 _ rfl; refine kb ?_; refine blk_put (cs := #[.int .i64 (Go.bits .and .i64 (t382 / 16) 255), .int .i64 (Go.bits .and .i64 t383 1048575), .int .i64 (wrap64 (bt a0 7)), .int .i64 x385003_1, .bool t385, .int .u64 t386, .int .u64 t387, .bool t389, .int .u64 t390, .int .u64 t391, u385010, .bool true, .int .i64 x385012_1, .int .i64 (wrap64 ((t394 / 8) * 8)), .bool x385014_1, .string (⟨#[]⟩ : ByteArray)]) ?_ 14 _ rfl; refine kb ?_; refine blk_put (cs := #[.int .i64 (Go.bits .and .i64 (t382 / 16) 255), .int .i64 (Go.bits .and .i64 t383 1048575), .int .i64 (wrap64 (bt a0 7)), .int .i64 x385003_1, .bool t385, .int .u64 t386, .int .u64 t387, .bool t389, .int .u64 t390, .int .u64 t391, u385010, .bool true, .int .i64 x385012_1, .int .i64 x385013_1, .bool x385014_1, .string (⟨#[]⟩ : ByteArray)]) ?_ 13 _ rfl; refine kb ?_; refine blk_put (cs := #[.int .i64 (Go.bits .and .i64 (t382 / 16) 255), .int .i64 (Go.bits .and .i64 t383 1048575), .int .i64 (wrap64 (bt a0 7)), .int .i64 x385003_1, .bool t385, .int .u64 t386, .int .u64 t387, .bool t389, .int .u64 t390, .int .u64 t391, u385010, .bool x385011_1, .int .i64 x385012_1, .int .i64 x385013_1, .bool x385014_1, .string (⟨#[]⟩ : ByteArray)]) ?_ 11 _ rfl; exact kb BK384.out⟩, ⟨kB2 HB.out GE380.out GE384.out⟩⟩
                             rw [if_neg c100] at H
                             exact absurd H (by simp)
                            rw [if_neg c99] at H
                            exact absurd H (by simp)
                           rw [if_neg c97] at H
                           exact absurd H (by simp)
                          rw [if_neg c95] at H
                          exact absurd H (by simp)
                         rw [if_neg c94] at H
                         exact absurd H (by simp)
                        rw [if_neg c93] at H
                        have c93b0 : (x385003_1 == 44) = false := beq_eq_false_iff_ne.mpr c93
                        have c93b1 : (x385003_1 != 44) = true := bne_iff_ne.mpr c93
                        by_cases c105 : 1 < (x6_1.size : Int)
                        ·rw [if_pos c105] at H
                         have c105b0 : decide (1 < (x6_1.size : Int)) = true := decide_eq_true c105
                         have c105b1 : decide (1 < x6_1.size) = true := decide_eq_true (by omega)
                         clear c105
                         by_cases c107 : 2 ≤ (8 + (8 * (bt x6_1 1)))
                         ·rw [if_pos c107] at H
                          have c107b0 := eq_true c107
                          have c107b1 : decide (2 ≤ (8 + (8 * (bt x6_1 1)))) = true := decide_eq_true c107
                          by_cases c108 : (8 + (8 * (bt x6_1 1))) ≤ (x6_1.size : Int)
                          ·rw [if_pos c108] at H
                           have c108b0 := eq_true c108
                           have c108b1 : decide ((8 + (8 * (bt x6_1 1))) ≤ (x6_1.size : Int)) = true := decide_eq_true c108
                           by_cases c109 : x385010_1.length < 5864062014805
                           ·rw [if_pos c109] at H
                            have LMc109 := As c109
                            clear c109
                            obtain ⟨y396, hy396⟩ : ∃ y_ : List (S60), y_ = (x385010_1 ++ [(⟨x385003_1, x6_1.extract 2 ((8 + (8 * (bt x6_1 1))) : Int).toNat⟩ : S60)]) := ⟨_, rfl⟩
                            replace H : (if 0 ≤ (8 + (8 * (bt x6_1 1))) then (intrusionref12_Decode.l0 kj80 (x6_1.extract ((8 + (8 * (bt x6_1 1))) : Int).toNat x6_1.size) false (Go.bits .and .i64 (t382 / 16) 255) (Go.bits .and .i64 t383 1048575) (wrap64 (bt a0 7)) (bt x6_1 0) t385 t386 t387 t389 t390 t391 y396 x385011_1 x385012_1 x385013_1 x385014_1 (⟨#[]⟩ : ByteArray)) else (none)) = some (r1, r2, r3, r4, r5, r6, r7, r8, r9, r10, r11, r12, r13, r14, r15, r16, r17) := by first | (rw [hy396]; with_reducible exact H) | (have H2_ := (Option.bind_some _ _).symm.trans H; rw [hy396]; with_reducible exact H2_) | (have H2_ := (Option.bind_some _ _).symm.trans H; with_reducible exact H2_) | with_reducible exact H | (rw [hy396]; exact H) | exact H
                            have Ny396 := As hy396
                            clear hy396
                            obtain ⟨ji110, hji110⟩ : ∃ j_ : Int, (8 + (8 * (bt x6_1 1))) = j_ := ⟨_, rfl⟩
                            replace H : (if 0 ≤ (ji110) then (intrusionref12_Decode.l0 kj80 (x6_1.extract ((ji110) : Int).toNat x6_1.size) false (Go.bits .and .i64 (t382 / 16) 255) (Go.bits .and .i64 t383 1048575) (wrap64 (bt a0 7)) (bt x6_1 0) t385 t386 t387 t389 t390 t391 y396 x385011_1 x385012_1 x385013_1 x385014_1 (⟨#[]⟩ : ByteArray)) else (none)) = some (r1, r2, r3, r4, r5, r6, r7, r8, r9, r10, r11, r12, r13, r14, r15, r16, r17) := by first | (rw [hji110] at H; exact H) | (simp only [hji110] at H ⊢; exact H)
                            (try rw [hji110] at c107b0)
                            (try rw [hji110] at c107b1)
                            (try rw [hji110] at c107)
                            (try rw [hji110] at c108b0)
                            (try rw [hji110] at c108b1)
                            (try rw [hji110] at c108)
                            (try rw [hji110] at Ny396)
                            (try rw [hji110] at Ny396)
                            by_cases c111 : 0 ≤ (ji110)
                            ·rw [if_pos c111] at H
                             have c111b0 := eq_true c111
                             have c111b1 : decide (0 ≤ (ji110)) = true := decide_eq_true c111
                             clear c111
                             have c112b0 := eq_true (of_decide_eq_true (by first | (with_reducible assumption) | assumption) : (ji110) ≤ (x6_1.size : Int))
                             have H' := As H
                             clear H
                             have p92 : 0 ≤ (0 : Int) := (by omega)
                             have q92 : 0 < x6_1.size := (by have : (0 : Int) < (x6_1.size : Int) := of_decide_eq_true (by first | (with_reducible assumption) | assumption); omega)
                             have hx92 : ∀ h : 0 < x6_1.size, ((x6_1[0]'h).toNat : Int) = bt x6_1 0 := bt_at x6_1 0
                             clear p92
                             have qi92 : (0 < (x6_1.size : Int)) = True := eq_true (of_decide_eq_true (by first | (with_reducible assumption) | assumption))
                             replace q92 := eq_true q92
                             have hbl92 := (bt_range x6_1 0).1
                             have hbu92 := (bt_range x6_1 0).2
                             have hnb113 := NB384_380.out
                             have hnc113 := NB380_384.out
                             have hcz114_0 := cells_16 BK384.out
                             have hfz114_0 := fun j_ => blk_frozen BK384.out j_
                             have p106 : 0 ≤ (1 : Int) := (by omega)
                             have q106 : 1 < x6_1.size := (by have : (1 : Int) < (x6_1.size : Int) := of_decide_eq_true (by first | (with_reducible assumption) | assumption); omega)
                             have hx106 : ∀ h : 1 < x6_1.size, ((x6_1[1]'h).toNat : Int) = bt x6_1 1 := bt_at x6_1 1
                             clear p106
                             have qi106 : (1 < (x6_1.size : Int)) = True := eq_true (of_decide_eq_true (by first | (with_reducible assumption) | assumption))
                             replace q106 := eq_true q106
                             have hbl106 := (bt_range x6_1 1).1
                             have hbu106 := (bt_range x6_1 1).2
                             try go_wp2
                             replace HO_385010 := As (Kd.R_drew HO_385010.out)
                             replace BK380 := As (blk_drew BK380.out)
                             replace BK384 := As (blk_drew BK384.out)
                             replace HB := As (below_drew1 HB.out)
                             refine start_ (n := 12) (S := fun w' => w'.cell? ⟨gb384, 0, none⟩ = some (.int .i64 (Go.bits .and .i64 (t382 / 16) 255)) ∧ w'.cell? ⟨gb384, 1, none⟩ = some (.int .i64 (Go.bits .and .i64 t383 1048575)) ∧ w'.cell? ⟨gb384, 2, none⟩ = some (.int .i64 (wrap64 (bt a0 7))) ∧ w'.cell? ⟨gb384, 3, none⟩ = some (.int .i64 x385003_1) ∧ w'.cell? ⟨gb384, 4, none⟩ = some (.bool t385) ∧ w'.cell? ⟨gb384, 5, none⟩ = some (.int .u64 t386) ∧ w'.cell? ⟨gb384, 6, none⟩ = some (.int .u64 t387) ∧ w'.cell? ⟨gb384, 7, none⟩ = some (.bool t389) ∧ w'.cell? ⟨gb384, 8, none⟩ = some (.int .u64 t390) ∧ w'.cell? ⟨gb384, 9, none⟩ = some (.int .u64 t391) ∧ w'.cell? ⟨gb384, 10, none⟩ = some (u385010) ∧ w'.cell? ⟨gb384, 11, none⟩ = some (.bool x385011_1) ∧ w'.cell? ⟨gb384, 12, none⟩ = some (.int .i64 x385012_1) ∧ w'.cell? ⟨gb384, 13, none⟩ = some (.int .i64 x385013_1) ∧ w'.cell? ⟨gb384, 14, none⟩ = some (.bool x385014_1) ∧ w'.cell? ⟨gb384, 15, none⟩ = some (.string (⟨#[]⟩ : ByteArray))) (ds := [11]) #[false, false, false, false, false, false, false, false, false, false, false, false] (by kernel_rfl) rfl rfl ⟨(blk_cell BK384.out 0).trans rfl, (blk_cell BK384.out 1).trans rfl, (blk_cell BK384.out 2).trans rfl, (blk_cell BK384.out 3).trans rfl, (blk_cell BK384.out 4).trans rfl, (blk_cell BK384.out 5).trans rfl, (blk_cell BK384.out 6).trans rfl, (blk_cell BK384.out 7).trans rfl, (blk_cell BK384.out 8).trans rfl, (blk_cell BK384.out 9).trans rfl, (blk_cell BK384.out 10).trans rfl, (blk_cell BK384.out 11).trans rfl, (blk_cell BK384.out 12).trans rfl, (blk_cell BK384.out 13).trans rfl, (blk_cell BK384.out 14).trans rfl, (blk_cell BK384.out 15).trans rfl⟩ (fun hHeld => ?_); refine with_tabW intrusionref12_Decode.tab29 intrusionref12_Decode.bits29 (fun HT_ HW_ => ?_)
                             generalize wc.drew = w115 at HO_385010 BK380 BK384 HB hHeld ⊢
                             refine kP 0 140 #[true, false, false, false, false, false, false, false, false, false, false, false] ?_ (any_of HT_.out (by kernel_rfl))
                             refine kP 2 142 #[true, false, true, false, false, false, false, false, false, false, false, false] ?_ (any_of HT_.out (by kernel_rfl))
                             refine kP 4 144 #[true, false, true, false, true, false, false, false, false, false, false, false] ?_ (any_of HT_.out (by kernel_rfl))
                             refine kP 5 145 #[true, false, true, false, true, true, false, false, false, false, false, false] ?_ (any_of HT_.out (by kernel_rfl))
                             refine kP 6 146 #[true, false, true, false, true, true, true, false, false, false, false, false] ?_ (any_of HT_.out (by kernel_rfl))
                             refine take_ (i := 1) (N := some 141) (v := ?_) (a' := ?_) #[true, true, true, false, true, true, true, false, false, false, false, false] rfl rfl (take_ofW HT_.out HW_.out (by kernel_rfl)) (fun _ _ _ h => h) (Or.inl ⟨by rfl, ?_⟩) hHeld ?_ ?_
                             rotate_left
                             ·rintro w' ⟨s0, s1, s2, s3, s4, s5, s6, s7, s8, s9, s10, s11, s12, s13, s14, s15⟩
                              go_simp
                              with_reducible rfl
                             rotate_left
                             ·simp only [Act.put, sA, sZ, sS, i64_w, i32_w]
                              rfl
                             refine take_ (i := 3) (N := some 143) (v := ?_) (a' := ?_) #[true, true, true, true, true, true, true, false, false, false, false, false] rfl rfl (take_ofW HT_.out HW_.out (by kernel_rfl)) (fun _ _ _ h => h) (Or.inl ⟨by rfl, ?_⟩) hHeld ?_ ?_
                             rotate_left
                             ·rintro w' ⟨s0, s1, s2, s3, s4, s5, s6, s7, s8, s9, s10, s11, s12, s13, s14, s15⟩
                              go_simp
                              with_reducible rfl
                             rotate_left
                             ·simp only [Act.put, sA, sZ, sS, i64_w, i32_w]
                              rfl
                             refine kP 7 147 #[true, true, true, true, true, true, true, true, false, false, false, false] ?_ (any_of HT_.out (by kernel_rfl))
                             refine one_ (i := 8) (N := some 148) #[true, true, true, true, true, true, true, true, true, false, false, false] rfl rfl (one_of HT_.out (by kernel_rfl)) (by decide) (fun K hK => ?_)
                             refine value_ (w1 := ?_) (v := ?_) (by rfl) rfl ?_ ?_
                             rotate_left 2
                             ·go_simp
                              constructor
                              ·rfl
                              rfl
                             refine hK.out _ _ ⟨(blk_cell (blk_alloc BK384.out _) 0).trans rfl, (blk_cell (blk_alloc BK384.out _) 1).trans rfl, (blk_cell (blk_alloc BK384.out _) 2).trans rfl, (blk_cell (blk_alloc BK384.out _) 3).trans rfl, (blk_cell (blk_alloc BK384.out _) 4).trans rfl, (blk_cell (blk_alloc BK384.out _) 5).trans rfl, (blk_cell (blk_alloc BK384.out _) 6).trans rfl, (blk_cell (blk_alloc BK384.out _) 7).trans rfl, (blk_cell (blk_alloc BK384.out _) 8).trans rfl, (blk_cell (blk_alloc BK384.out _) 9).trans rfl, (blk_cell (blk_alloc BK384.out _) 10).trans rfl, (blk_cell (blk_alloc BK384.out _) 11).trans rfl, (blk_cell (blk_alloc BK384.out _) 12).trans rfl, (blk_cell (blk_alloc BK384.out _) 13).trans rfl, (blk_cell (blk_alloc BK384.out _) 14).trans rfl, (blk_cell (blk_alloc BK384.out _) 15).trans rfl⟩ (fun hHeld => ?_)
                             clear hK K
                             refine norm_ (a' := ?_) ?_ ?_
                             rotate_left
                             ·show Act.put _ (some 148) _ = _
                              simp only [Act.put, sA, sZ, sS, i64_w, i32_w]
                              rfl
                             refine one_ (i := 9) (N := some 149) #[true, true, true, true, true, true, true, true, true, true, false, false] rfl rfl (one_of HT_.out (by kernel_rfl)) (by decide) (fun K hK => ?_)
                             refine Kd.R_append_step k60 (w0 := w) w.heap.size (by rfl) (.tmp 141) (.tmp 148) 26 60 (.agg #[(.int .i64 0), (.string ⟨#[]⟩)]) 24 rfl Try.underlying26 info60 rfl (by decide) (by omega) u385010 x385010_1 (⟨x385003_1, x6_1.extract 2 ((ji110) : Int).toNat⟩ : S60) [.int .i64 x385003_1, .string (x6_1.extract 2 ((ji110) : Int).toNat)] (fun _ => True) (fun _ => False) rfl rfl ?aP (fun _ hk => hk.elim) ?aF ?aO ?aB ?aS ?aL ?_
                             (case aP => exact k60_mkM _ _ _ (⟨x385003_1, x6_1.extract 2 ((ji110) : Int).toNat⟩ : S60))
                             (case aB => exact (kB2 HB.out GE380.out GE384.out))
                             (case aF => exact (fun _ _ => trivial))
                             (case aO => exact (kR HO_385010.out))
                             (case aS => exact (below_size (kB2 HB.out GE380.out GE384.out)))
                             (case aL => have := LMc109.out; omega)
                             intro v397 w116 ho hb hg hat
                             rw [← Ny396.out] at ho
                             replace BK380 := As (blk_grown (kb BK380.out) hg (Kd.R_ne HO_385010.out BK380.out (by decide)))
                             replace BK384 := As (blk_grown (kb BK384.out) hg (Kd.R_ne HO_385010.out BK384.out (by decide)))
                             replace HB := As (hb)
                             have HO398 := As (ho)
                             clear HO_385010
                             clear ho hb hg hat
                             obtain ⟨Ao117, co117, eo117⟩ := Kd.R_slice HO398.out
                             (first | subst eo117 | (injection eo117 with f1_ f2_ f3_; have f4_ := f1_.symm; have f5_ := f3_.symm; clear f1_ f2_ f3_; subst f4_; subst f5_))
                             refine hK.out _ _ ⟨(blk_cell BK384.out 0).trans rfl, (blk_cell BK384.out 1).trans rfl, (blk_cell BK384.out 2).trans rfl, (blk_cell BK384.out 3).trans rfl, (blk_cell BK384.out 4).trans rfl, (blk_cell BK384.out 5).trans rfl, (blk_cell BK384.out 6).trans rfl, (blk_cell BK384.out 7).trans rfl, (blk_cell BK384.out 8).trans rfl, (blk_cell BK384.out 9).trans rfl, (blk_cell BK384.out 10).trans rfl, (blk_cell BK384.out 11).trans rfl, (blk_cell BK384.out 12).trans rfl, (blk_cell BK384.out 13).trans rfl, (blk_cell BK384.out 14).trans rfl, (blk_cell BK384.out 15).trans rfl⟩ (fun hHeld => ?_)
                             clear hK K
                             refine norm_ (a' := ?_) ?_ ?_
                             rotate_left
                             ·show Act.put _ (some 149) _ = _
                              simp only [Act.put, sA, sZ, sS, i64_w, i32_w]
                              rfl
                             refine kP 10 150 #[true, true, true, true, true, true, true, true, true, true, true, false] ?_ (any_of HT_.out (by kernel_rfl))
                             refine last_ (i := 11) (N := none) #[true, true, true, true, true, true, true, true, true, true, true, true] rfl rfl (one_of HT_.out (by kernel_rfl)) (by decide) (fun K hK => ?_)
                             have hs118 : w116.cell? ⟨gb384, 10, none⟩ = some (u385010) := (blk_cell BK384.out 10).trans rfl
                             have hfs118 := blk_frozen BK384.out 10
                             have hns118_0 := NB380_384.out
                             have hms118_0 := NB384_380.out
                             refine skip_ (w1 := ?_) (by rfl) rfl ?_ ?_
                             rotate_left
                             ·go_simp
                              rfl
                             refine hK.out _ _ ?_
                             clear hK K
                             refine done_ (done_of HT_.out (by kernel_rfl)) ?_
                             have hcz119_0 := cells_16 BK384.out
                             have hfz119_0 := fun j_ => blk_frozen BK384.out j_
                             try go_wp2
                             go_roundg kj80
                             case measure => have := HK1.out; have := HJ54.out; have := HJ62.out; have := HJ72.out; have := HJ80.out; omega
                             case rel => exact ⟨(x6_1.extract ((ji110) : Int).toNat x6_1.size), (false), (x381000_1), (x381001_1), (x381002_1), (x381003_1), (x381004_1), (x381005_1), (x381006_1), (x381007_1), (x381008_1), (x381009_1), (x381011_1), (x381012_1), (x381013_1), (x381014_1), (x381015_1), (bt x6_1 0), (y396), (x385011_1), (x385012_1), (x385013_1), (x385014_1), (.slice Ao117 y396.length co117), (by first | rfl | (simp; done) | (simp only [← hji110] <;> (first | rfl | simp)) | (simp [*]; done)), kS, H', ⟨by have := HK1.out; have := HJ54.out; have := HJ62.out; have := HJ72.out; have := HJ80.out; omega⟩, ⟨by (with_reducible repeat (first | apply Kd.R_alloc | apply Kd.R_drewN | apply Kd.R_drew)); exact Kd.R_mono (Kd.R_far (p := ⟨gb384, 3, none⟩) (Kd.R_far (p := ⟨gb384, 10, none⟩) (Kd.R_types HO398.out BK384.out (by decide)) (fun _ hk => hk.2) (.slice Ao117 y396.length co117)) (fun _ hk => hk.2) (.int .i64 (bt x6_1 0))) (fun _ hk => trivial)⟩, ⟨by refine kb ?_; refine blk_far ?_ NB380_384.out _; refine kb ?_; refine blk_far ?_ NB380_384.out _; exact kb BK380.out⟩, ⟨by refine kb ?_; refine blk_put (cs := #[.int .i64 (Go.bits .and .i64 (t382 / 16) 255), .int .i64 (Go.bits .and .i64 t383 1048575), .int .i64 (wrap64 (bt a0 7)), .int .i64 x385003_1, .bool t385, .int .u64 t386, .int .u64 t387, .bool t389, .int .u64 t390, .int .u64 t391, .slice Ao117 y396.length co117, .bool x385011_1, .int .i64 x385012_1, .int .i64 x385013_1, .bool x385014_1, .string (⟨#[]⟩ : ByteArray)]) ?_ 3 _ rfl; refine kb ?_; refine blk_put (cs := #[.int .i64 (Go.bits .and .i64 (t382 / 16) 255), .int .i64 (Go.bits .and .i64 t383 1048575), .int .i64 (wrap64 (bt a0 7)), .int .i64 x385003_1, .bool t385, .int .u64 t386, .int .u64 t387, .bool t389, .int .u64 t390, .int .u64 t391, u385010, .bool x385011_1, .int .i64 x385012_1, .int .i64 x385013_1, .bool x385014_1, .string (⟨#[]⟩ : ByteArray)]) ?_ 10 _ rfl; exact kb BK384.out⟩, ⟨kB2 HB.out GE380.out GE384.out⟩⟩
                            rw [if_neg c111] at H
                            exact absurd H (by simp)
                           rw [if_neg c109] at H
                           exact absurd H (by simp)
                          rw [if_neg c108] at H
                          exact absurd H (by simp)
                         rw [if_neg c107] at H
                         exact absurd H (by simp)
                        rw [if_neg c105] at H
                        exact absurd H (by simp)
                       rw [if_neg c91] at H
                       exact absurd H (by simp)
                   replace c62 := Bool.eq_false_iff.mpr c62
                   subst c62
                   have H1 : (some ((Go.bits .and .i64 (t382 / 16) 255), (Go.bits .and .i64 t383 1048575), (wrap64 (bt a0 7)), x385003_1, t385, t386, t387, t389, t390, t391, x385010_1, x385011_1, x385012_1, x385013_1, x385014_1, x6_1, 0)) = some (r1, r2, r3, r4, r5, r6, r7, r8, r9, r10, r11, r12, r13, r14, r15, r16, r17) := by rw [if_neg (show ¬ (false = true) by decide)] at H; exact H
                   clear H
                   have H := H1
                   clear H1
                   simp only [Option.some.injEq, Prod.mk.injEq] at H
                   obtain ⟨rfl, rfl, rfl, rfl, rfl, rfl, rfl, rfl, rfl, rfl, rfl, rfl, rfl, rfl, rfl, rfl, rfl⟩ := H
                   have hnb120 := NB384_380.out
                   have hnc120 := NB380_384.out
                   have hcz121_0 := cells_16 BK384.out
                   have hfz121_0 := fun j_ => blk_frozen BK384.out j_
                   obtain ⟨Ao122, co122, eo122⟩ := Kd.R_slice HO_385010.out
                   subst eo122
                   go_wp2_with (first | ((with_reducible refine gate_dst (N := 158) rfl ?_); (try (refine gate_guard (by rfl) ?_; dsimp only)); refine wpList_load_row ?hgd 28 _ rfl gb384 rfl 28 #[.int .i64 (Go.bits .and .i64 (t382 / 16) 255), .int .i64 (Go.bits .and .i64 t383 1048575), .int .i64 (wrap64 (bt a0 7)), .int .i64 x385003_1, .bool t385, .int .u64 t386, .int .u64 t387, .bool t389, .int .u64 t390, .int .u64 t391, .slice Ao122 x385010_1.length co122, .bool x385011_1, .int .i64 x385012_1, .int .i64 x385013_1, .bool x385014_1, .string x6_1] (0, 0) _ (by refine kb ?_; refine blk_put (cs := #[.int .i64 (Go.bits .and .i64 (t382 / 16) 255), .int .i64 (Go.bits .and .i64 t383 1048575), .int .i64 (wrap64 (bt a0 7)), .int .i64 x385003_1, .bool t385, .int .u64 t386, .int .u64 t387, .bool t389, .int .u64 t390, .int .u64 t391, .slice Ao122 x385010_1.length co122, .bool x385011_1, .int .i64 x385012_1, .int .i64 x385013_1, .bool x385014_1, .string (⟨#[]⟩ : ByteArray)]) ?_ 15 _ rfl; exact kb BK384.out) Try.underlying28 rfl (by kernel_rfl) ?_; (case hgd => rfl)) | ((with_reducible refine gate_store (t := 28) (p := 2) rfl ?_); refine store_rowev_16 gb380 (.int .i64 (Go.bits .and .i64 (t382 / 16) 255)) (.int .i64 (Go.bits .and .i64 t383 1048575)) (.int .i64 (wrap64 (bt a0 7))) (.int .i64 x385003_1) (.bool t385) (.int .u64 t386) (.int .u64 t387) (.bool t389) (.int .u64 t390) (.int .u64 t391) (.slice Ao122 x385010_1.length co122) (.bool x385011_1) (.int .i64 x385012_1) (.int .i64 x385013_1) (.bool x385014_1) (.string x6_1) ?hg (t := 28) (p := 2) (v := _) rfl ?hn ?hc2 ?hc3 (t' := 28) (cs := #[.int .i64 x381000_1, .int .i64 x381001_1, .int .i64 x381002_1, .int .i64 x381003_1, .bool x381004_1, .int .u64 x381005_1, .int .u64 x381006_1, .bool x381007_1, .int .u64 x381008_1, .int .u64 x381009_1, .slice none 0 0, .bool x381011_1, .int .i64 x381012_1, .int .i64 x381013_1, .bool x381014_1, .string x381015_1]) ?hc4 ?hc5 ?hc6 ?hc7 ?_; (case hg => rfl); (case hn => rfl); (case hc2 => rfl); (case hc3 => rfl); (case hc4 => exact (by refine kb ?_; refine blk_far ?_ NB380_384.out _; exact kb BK380.out)); (case hc5 => rfl); (case hc6 => kernel_rfl); (case hc7 => rfl)))
                   refine bodyPost_ret (results_ct rfl _ _ gb380 28 #[.int .i64 (Go.bits .and .i64 (t382 / 16) 255), .int .i64 (Go.bits .and .i64 t383 1048575), .int .i64 (wrap64 (bt a0 7)), .int .i64 x385003_1, .bool t385, .int .u64 t386, .int .u64 t387, .bool t389, .int .u64 t390, .int .u64 t391, .slice Ao122 x385010_1.length co122, .bool x385011_1, .int .i64 x385012_1, .int .i64 x385013_1, .bool x385014_1, .string x6_1] (0, 0) _ rfl (by refine kb ?_; refine blk_all_16 (cs := #[.int .i64 x381000_1, .int .i64 x381001_1, .int .i64 x381002_1, .int .i64 x381003_1, .bool x381004_1, .int .u64 x381005_1, .int .u64 x381006_1, .bool x381007_1, .int .u64 x381008_1, .int .u64 x381009_1, .slice none 0 0, .bool x381011_1, .int .i64 x381012_1, .int .i64 x381013_1, .bool x381014_1, .string x381015_1]) ?_ rfl; refine kb ?_; refine blk_far ?_ NB380_384.out _; exact kb BK380.out) Try.underlying28 rfl (by kernel_rfl)) rfl ?_
                   exact ⟨_, kE, by (with_reducible repeat (first | apply Kd.R_alloc | apply Kd.R_drewN | apply Kd.R_drew)); exact Kd.R_mono (Kd.R_puts_0_16 gb380 (.int .i64 (Go.bits .and .i64 (t382 / 16) 255)) (.int .i64 (Go.bits .and .i64 t383 1048575)) (.int .i64 (wrap64 (bt a0 7))) (.int .i64 x385003_1) (.bool t385) (.int .u64 t386) (.int .u64 t387) (.bool t389) (.int .u64 t390) (.int .u64 t391) (.slice Ao122 x385010_1.length co122) (.bool x385011_1) (.int .i64 x385012_1) (.int .i64 x385013_1) (.bool x385014_1) (.string x6_1) (Kd.R_far (p := ⟨gb384, 15, none⟩) (Kd.R_types (Kd.R_types HO_385010.out BK384.out (by decide)) BK380.out (by decide)) (fun _ hk => hk.1.2) (.string x6_1)) (fun _ hk => hk.2)) (fun _ hk => trivial), by exact kB2 HB.out GE380.out GE384.out⟩
                rw [if_neg c29] at H
                exact absurd H (by simp)
               rw [if_neg c28] at H
               exact absurd H (by simp)
              rw [if_neg c26] at H
              exact absurd H (by simp)
             rw [if_neg c25] at H
             exact absurd H (by simp)
            rw [if_neg c23] at H
            exact absurd H (by simp)
           rw [if_neg c22] at H
           exact absurd H (by simp)
          rw [if_neg c20] at H
          exact absurd H (by simp)
         rw [if_neg c18] at H
         exact absurd H (by simp)
        rw [if_neg c16] at H
        exact absurd H (by simp)
       rw [if_neg c15] at H
       exact absurd H (by simp)
      rw [if_neg c13] at H
      exact absurd H (by simp)
     rw [if_neg c12] at H
     exact absurd H (by simp)
    rw [if_neg c8] at H
    exact absurd H (by simp)
   rw [if_neg c7] at H
   exact absurd H (by simp)
  rw [if_neg c6] at H
  have c6b0 : (((bt a0 0) / 16) == 6) = false := beq_eq_false_iff_ne.mpr c6
  have c6b1 : (((bt a0 0) / 16) != 6) = true := bne_iff_ne.mpr c6
  simp only [Option.some.injEq, Prod.mk.injEq] at H
  obtain ⟨rfl, rfl, rfl, rfl, rfl, rfl, rfl, rfl, rfl, rfl, rfl, rfl, rfl, rfl, rfl, rfl, rfl⟩ := H
  go_enter Try.func12, Try.ntmps12
  go_wp2_with (first | ((with_reducible refine gate_dst (N := 2) rfl ?_); (try (refine gate_guard (by rfl) ?_; dsimp only)); refine box_event rfl (N := 2) rfl (cs := #[.int .i64 0, .int .i64 0, .int .i64 0, .int .i64 0, .bool false, .int .u64 0, .int .u64 0, .bool false, .int .u64 0, .int .u64 0, .slice none 0 0, .bool false, .int .i64 0, .int .i64 0, .bool false, .string (⟨#[]⟩ : ByteArray)]) (t := 28) kG ?_; intro gb380 hg w123 hbox hb; have BK380 := As (hbox); have GW380 := As ((by rw [hg]; exact (below_size (kB HB.out)) : w.heap.size ≤ gb380)); have GE380 := As ((by rw [hg]; exact (below_size (kB HB.out)) : w.heap.size ≤ gb380)); replace HB := As (below_step (kB HB.out) hb); clear hb hbox hg; have p5 : 0 ≤ (0 : Int) := (by omega); have q5 : 0 < a0.size := (by have : (0 : Int) < (a0.size : Int) := of_decide_eq_true (by first | (with_reducible assumption) | assumption); omega); have hx5 : ∀ h : 0 < a0.size, ((a0[0]'h).toNat : Int) = bt a0 0 := bt_at a0 0; clear p5; have qi5 : (0 < (a0.size : Int)) = True := eq_true (of_decide_eq_true (by first | (with_reducible assumption) | assumption)); replace q5 := eq_true q5; have hbl5 := (bt_range a0 0).1; have hbu5 := (bt_range a0 0).2) | ((with_reducible refine gate_store (t := 28) (p := 2) rfl ?_); refine store_rowev_16 gb380 (.int .i64 0) (.int .i64 0) (.int .i64 0) (.int .i64 0) (.bool false) (.int .u64 0) (.int .u64 0) (.bool false) (.int .u64 0) (.int .u64 0) (.slice none 0 0) (.bool false) (.int .i64 0) (.int .i64 0) (.bool false) (.string (⟨#[]⟩ : ByteArray)) rfl (t := 28) (p := 2) (v := _) rfl rfl rfl rfl (t' := 28) (kb BK380.out) (by rfl) (by kernel_rfl) (by rfl) ?_))
  refine bodyPost_ret (results_ct rfl _ _ gb380 28 #[.int .i64 0, .int .i64 0, .int .i64 0, .int .i64 0, .bool false, .int .u64 0, .int .u64 0, .bool false, .int .u64 0, .int .u64 0, .slice none 0 0, .bool false, .int .i64 0, .int .i64 0, .bool false, .string (⟨#[]⟩ : ByteArray)] (0, 0) _ rfl (by refine kb ?_; exact blk_all_16 (kb BK380.out) (by rfl)) Try.underlying28 rfl (by kernel_rfl)) rfl ?_
  exact ⟨_, kE, by first | exact Kd.R_nil _ _ _ _ _ | exact Kd.N_nil _ _ _ _ _ | exact Kd.V_nil _ _ _ _ _ | exact Kd.Q_nil _ _ _ _ _ | exact Kd.S_nil _ _ _ _ _, by exact kB1 HB.out GE380.out⟩
 rw [if_neg c4] at H
 exact absurd H (by simp)

end Go.Proofs.Ytljboandbjahdaa.X
-- short
