/- What the functions of the translation that this claim's statement reaches compute, each proved by its walk. Written by xprint.py, a program of this claim's author, run over the kit's printer. -/
import Derived.Test.YtljboandbjahdaaX0
import Derived.Test.YtljboandbjahdaaX7
import Derived.Test.YtljboandbjahdaaX8
namespace Go.Proofs.Ytljboandbjahdaa.X
open Go.RowKit Go.Proofs.YtljboandbjahdaaW.PrintWords Go.Proofs.YtljboandbjahdaaW.PrintLast Go.Proofs.YtljboandbjahdaaW.PrintMore
attribute [local go_sem] max2_int min2_int max_two min_two max_three min_three max_four min_four   -- for this text's walks alone
set_option linter.unusedVariables false
set_option linter.unusedSimpArgs false

/-! ### ipv6_Encode: function 15 -/
mutual
def ipv6_Encode.l0 : Nat → List Int → List (S60) → Int → Int → Int → Int → Int → Int → Bool → Int → Int → Bool → Int → Int → List (S60) → Bool → Int → Int → Bool → ByteArray → Option (ByteArray × Int)
 | 0, _, _, _, _, _, _, _, _, _, _, _, _, _, _, _, _, _, _, _, _ => none
 | k + 1, x5, x20, x21, x22, b0, b1, b2, b3, b4, b5, b6, b7, b8, b9, b10, b11, b12, b13, b14, b15 => if x22 < x21 then (if 0 ≤ x22 then (if x22 < (x20.length : Int) then (if x5.length < 17592186044416 then (ipv6_Encode.l0 k (x5 ++ [(rd_T60 x20 x22).f0]) x20 x21 (wrap64 (x22 + 1)) b0 b1 b2 b3 b4 b5 b6 b7 b8 b9 b10 b11 b12 b13 b14 b15) else (none)) else (none)) else (none)) else (if b11 = true then (if x5.length < 17592186044416 then (ipv6_Encode.j1 k (x5 ++ [44]) b0 b1 b2 b3 b4 b5 b6 b7 b8 b9 b10 b11 b12 b13 b14 b15) else (none)) else (ipv6_Encode.j1 k x5 b0 b1 b2 b3 b4 b5 b6 b7 b8 b9 b10 b11 b12 b13 b14 b15))
def ipv6_Encode.j1 : Nat → List Int → Int → Int → Int → Int → Bool → Int → Int → Bool → Int → Int → List (S60) → Bool → Int → Int → Bool → ByteArray → Option (ByteArray × Int)
 | 0, _, _, _, _, _, _, _, _, _, _, _, _, _, _, _, _, _ => none
 | k + 1, x5, b0, b1, b2, b3, b4, b5, b6, b7, b8, b9, b10, b11, b12, b13, b14, b15 => if x5.length < 17592186044416 then (ipv6_Encode.l1 k (x5 ++ [b3]) (⟨#[]⟩ : ByteArray) b10 (b10.length : Int) 0 b0 b1 b2 b3 b4 b5 b6 b7 b8 b9 b10 b11 b12 b13 b14 b15) else (none)
def ipv6_Encode.l1 : Nat → List Int → ByteArray → List (S60) → Int → Int → Int → Int → Int → Int → Bool → Int → Int → Bool → Int → Int → List (S60) → Bool → Int → Int → Bool → ByteArray → Option (ByteArray × Int)
 | 0, _, _, _, _, _, _, _, _, _, _, _, _, _, _, _, _, _, _, _, _, _ => none
 | k + 1, x5, x8, x43, x44, x45, b0, b1, b2, b3, b4, b5, b6, b7, b8, b9, b10, b11, b12, b13, b14, b15 => if x45 < x44 then (if 0 ≤ x45 then (if x45 < (x43.length : Int) then (if 0 ≤ (wrap64 (x45 + 1)) then (if (wrap64 (x45 + 1)) < (x5.length : Int) then ((ipv6_join.f k (([(⟨rd x5 (wrap64 (x45 + 1)), 1⟩ : S64), (⟨wrap64 (Int.tdiv (wrap64 ((((rd_T60 x43 x45).f1).size : Int) - 6)) 8), 1⟩ : S64)] : List (S64)))).bind fun t258 => (if t258.size + ((rd_T60 x43 x45).f1).size ≤ 9223372036854775807 then (if x8.size + (t258 ++ ((rd_T60 x43 x45).f1)).size ≤ 9223372036854775807 then (ipv6_Encode.l1 k x5 (x8 ++ (t258 ++ ((rd_T60 x43 x45).f1))) x43 x44 (wrap64 (x45 + 1)) b0 b1 b2 b3 b4 b5 b6 b7 b8 b9 b10 b11 b12 b13 b14 b15) else (none)) else (none))) else (none)) else (none)) else (none)) else (none)) else (if b11 = true then (if b14 = true then (ipv6_Encode.j3 k x5 x8 (wrap64 (b13 + 1)) b0 b1 b2 b3 b4 b5 b6 b7 b8 b9 b10 b11 b12 b13 b14 b15) else (ipv6_Encode.j3 k x5 x8 b13 b0 b1 b2 b3 b4 b5 b6 b7 b8 b9 b10 b11 b12 b13 b14 b15)) else (ipv6_Encode.j4 k x5 x8 b0 b1 b2 b3 b4 b5 b6 b7 b8 b9 b10 b11 b12 b13 b14 b15))
def ipv6_Encode.j4 : Nat → List Int → ByteArray → Int → Int → Int → Int → Bool → Int → Int → Bool → Int → Int → List (S60) → Bool → Int → Int → Bool → ByteArray → Option (ByteArray × Int)
 | 0, _, _, _, _, _, _, _, _, _, _, _, _, _, _, _, _, _, _ => none
 | k + 1, x5, x8, b0, b1, b2, b3, b4, b5, b6, b7, b8, b9, b10, b11, b12, b13, b14, b15 => if x8.size + b15.size ≤ 9223372036854775807 then (if ((x8 ++ b15).size : Int) > 65535 then (some ((⟨#[]⟩ : ByteArray), 3)) else (if 0 < (x5.length : Int) then ((ipv6_join.f k (([(⟨Go.bits .or .i64 (Go.bits .or .i64 1610612736 (wrap64 (b0 * 1048576))) b1, 4⟩ : S64), (⟨((x8 ++ b15).size : Int), 2⟩ : S64), (⟨rd x5 0, 1⟩ : S64), (⟨b2, 1⟩ : S64)] : List (S64)))).bind fun t267 => ((address_Bytes.f k b4 b5 b6).bind fun t268 => (if t267.size + t268.size ≤ 9223372036854775807 then ((address_Bytes.f k b7 b8 b9).bind fun t269 => (if (t267 ++ t268).size + t269.size ≤ 9223372036854775807 then (if ((t267 ++ t268) ++ t269).size + (x8 ++ b15).size ≤ 9223372036854775807 then (some (((t267 ++ t268) ++ t269) ++ (x8 ++ b15), 0)) else (none)) else (none))) else (none)))) else (none))) else (none)
def ipv6_Encode.j3 : Nat → List Int → ByteArray → Int → Int → Int → Int → Int → Bool → Int → Int → Bool → Int → Int → List (S60) → Bool → Int → Int → Bool → ByteArray → Option (ByteArray × Int)
 | 0, _, _, _, _, _, _, _, _, _, _, _, _, _, _, _, _, _, _, _ => none
 | k + 1, x5, x8, x11, b0, b1, b2, b3, b4, b5, b6, b7, b8, b9, b10, b11, b12, b13, b14, b15 => (ipv6_join.f k (([(⟨b3, 1⟩ : S64), (⟨0, 1⟩ : S64), (⟨x11, 2⟩ : S64), (⟨b12, 4⟩ : S64)] : List (S64)))).bind fun t262 => (if x8.size + t262.size ≤ 9223372036854775807 then (ipv6_Encode.j4 k x5 (x8 ++ t262) b0 b1 b2 b3 b4 b5 b6 b7 b8 b9 b10 b11 b12 b13 b14 b15) else (none))
end
def ipv6_Encode.f (k : Nat) (d0 : Int) (d1 : Int) (d2 : Int) (d3 : Int) (d4 : Bool) (d5 : Int) (d6 : Int) (d7 : Bool) (d8 : Int) (d9 : Int) (l0_10 : List (S60)) (d11 : Bool) (d12 : Int) (d13 : Int) (d14 : Bool) (d15 : ByteArray) : Option (ByteArray × Int) := (ipv6_check.f k d0 d1 d2 d3 d4 d5 d6 d7 d8 d9 l0_10 d11 d12 d13 d14 d15).bind fun t237 => (if t237 = 0 then (ipv6_Encode.l0 k (([] : List Int)) l0_10 (l0_10.length : Int) 0 d0 d1 d2 d3 d4 d5 d6 d7 d8 d9 l0_10 d11 d12 d13 d14 d15) else (some ((⟨#[]⟩ : ByteArray), t237)))
theorem ipv6_Encode.mono_l : ∀ k, (∀ y0 y1 y2 y3 y4 y5 y6 y7 y8 y9 y10 y11 y12 y13 y14 y15 y16 y17 y18 y19, LeO (ipv6_Encode.l0 k y0 y1 y2 y3 y4 y5 y6 y7 y8 y9 y10 y11 y12 y13 y14 y15 y16 y17 y18 y19) (ipv6_Encode.l0 (k + 1) y0 y1 y2 y3 y4 y5 y6 y7 y8 y9 y10 y11 y12 y13 y14 y15 y16 y17 y18 y19)) ∧ (∀ y0 y1 y2 y3 y4 y5 y6 y7 y8 y9 y10 y11 y12 y13 y14 y15 y16, LeO (ipv6_Encode.j1 k y0 y1 y2 y3 y4 y5 y6 y7 y8 y9 y10 y11 y12 y13 y14 y15 y16) (ipv6_Encode.j1 (k + 1) y0 y1 y2 y3 y4 y5 y6 y7 y8 y9 y10 y11 y12 y13 y14 y15 y16)) ∧ (∀ y0 y1 y2 y3 y4 y5 y6 y7 y8 y9 y10 y11 y12 y13 y14 y15 y16 y17 y18 y19 y20, LeO (ipv6_Encode.l1 k y0 y1 y2 y3 y4 y5 y6 y7 y8 y9 y10 y11 y12 y13 y14 y15 y16 y17 y18 y19 y20) (ipv6_Encode.l1 (k + 1) y0 y1 y2 y3 y4 y5 y6 y7 y8 y9 y10 y11 y12 y13 y14 y15 y16 y17 y18 y19 y20)) ∧ (∀ y0 y1 y2 y3 y4 y5 y6 y7 y8 y9 y10 y11 y12 y13 y14 y15 y16 y17, LeO (ipv6_Encode.j4 k y0 y1 y2 y3 y4 y5 y6 y7 y8 y9 y10 y11 y12 y13 y14 y15 y16 y17) (ipv6_Encode.j4 (k + 1) y0 y1 y2 y3 y4 y5 y6 y7 y8 y9 y10 y11 y12 y13 y14 y15 y16 y17)) ∧ (∀ y0 y1 y2 y3 y4 y5 y6 y7 y8 y9 y10 y11 y12 y13 y14 y15 y16 y17 y18, LeO (ipv6_Encode.j3 k y0 y1 y2 y3 y4 y5 y6 y7 y8 y9 y10 y11 y12 y13 y14 y15 y16 y17 y18) (ipv6_Encode.j3 (k + 1) y0 y1 y2 y3 y4 y5 y6 y7 y8 y9 y10 y11 y12 y13 y14 y15 y16 y17 y18))
 | 0 => ⟨fun _ _ _ _ _ _ _ _ _ _ _ _ _ _ _ _ _ _ _ _ r h => by simp [ipv6_Encode.l0] at h, fun _ _ _ _ _ _ _ _ _ _ _ _ _ _ _ _ _ r h => by simp [ipv6_Encode.j1] at h, fun _ _ _ _ _ _ _ _ _ _ _ _ _ _ _ _ _ _ _ _ _ r h => by simp [ipv6_Encode.l1] at h, fun _ _ _ _ _ _ _ _ _ _ _ _ _ _ _ _ _ _ r h => by simp [ipv6_Encode.j4] at h, fun _ _ _ _ _ _ _ _ _ _ _ _ _ _ _ _ _ _ _ r h => by simp [ipv6_Encode.j3] at h⟩
 | k + 1 => by
  obtain ⟨ih0, ih1, ih2, ih3, ih4⟩ := ipv6_Encode.mono_l k
  refine ⟨?_, ?_, ?_, ?_, ?_⟩
  ·intro y0 y1 y2 y3 y4 y5 y6 y7 y8 y9 y10 y11 y12 y13 y14 y15 y16 y17 y18 y19
   unfold ipv6_Encode.l0
   repeat' first | with_reducible first | apply ih0 | apply ih1 | apply ih2 | apply ih3 | apply ih4 | apply address_Bytes.mono | apply ipv6_check.mono | apply ipv6_join.mono | apply LeO.refl | apply LeO.none | refine LeO.ite ?_ ?_ | refine LeO.bind ?_ (fun _ => ?_)
  ·intro y0 y1 y2 y3 y4 y5 y6 y7 y8 y9 y10 y11 y12 y13 y14 y15 y16
   unfold ipv6_Encode.j1
   repeat' first | with_reducible first | apply ih0 | apply ih1 | apply ih2 | apply ih3 | apply ih4 | apply address_Bytes.mono | apply ipv6_check.mono | apply ipv6_join.mono | apply LeO.refl | apply LeO.none | refine LeO.ite ?_ ?_ | refine LeO.bind ?_ (fun _ => ?_)
  ·intro y0 y1 y2 y3 y4 y5 y6 y7 y8 y9 y10 y11 y12 y13 y14 y15 y16 y17 y18 y19 y20
   unfold ipv6_Encode.l1
   repeat' first | with_reducible first | apply ih0 | apply ih1 | apply ih2 | apply ih3 | apply ih4 | apply address_Bytes.mono | apply ipv6_check.mono | apply ipv6_join.mono | apply LeO.refl | apply LeO.none | refine LeO.ite ?_ ?_ | refine LeO.bind ?_ (fun _ => ?_)
  ·intro y0 y1 y2 y3 y4 y5 y6 y7 y8 y9 y10 y11 y12 y13 y14 y15 y16 y17
   unfold ipv6_Encode.j4
   repeat' first | with_reducible first | apply ih0 | apply ih1 | apply ih2 | apply ih3 | apply ih4 | apply address_Bytes.mono | apply ipv6_check.mono | apply ipv6_join.mono | apply LeO.refl | apply LeO.none | refine LeO.ite ?_ ?_ | refine LeO.bind ?_ (fun _ => ?_)
  intro y0 y1 y2 y3 y4 y5 y6 y7 y8 y9 y10 y11 y12 y13 y14 y15 y16 y17 y18
  unfold ipv6_Encode.j3
  repeat' first | with_reducible first | apply ih0 | apply ih1 | apply ih2 | apply ih3 | apply ih4 | apply address_Bytes.mono | apply ipv6_check.mono | apply ipv6_join.mono | apply LeO.refl | apply LeO.none | refine LeO.ite ?_ ?_ | refine LeO.bind ?_ (fun _ => ?_)
theorem ipv6_Encode.mono : ∀ a0 a1 a2 a3 a4 a5 a6 a7 a8 a9 a10 a11 a12 a13 a14 a15 k, LeO (ipv6_Encode.f k a0 a1 a2 a3 a4 a5 a6 a7 a8 a9 a10 a11 a12 a13 a14 a15) (ipv6_Encode.f (k + 1) a0 a1 a2 a3 a4 a5 a6 a7 a8 a9 a10 a11 a12 a13 a14 a15) := by
 intro a0 a1 a2 a3 a4 a5 a6 a7 a8 a9 a10 a11 a12 a13 a14 a15 k
 obtain ⟨ih0, ih1, ih2, ih3, ih4⟩ := ipv6_Encode.mono_l k
 unfold ipv6_Encode.f
 repeat' first | with_reducible first | apply ih0 | apply ih1 | apply ih2 | apply ih3 | apply ih4 | apply address_Bytes.mono | apply ipv6_check.mono | apply ipv6_join.mono | apply LeO.refl | apply LeO.none | refine LeO.ite ?_ ?_ | refine LeO.bind ?_ (fun _ => ?_)
def ipv6_Encode.T17 : Bool × List (List Nat × List Nat) := (true, [([], []), ([], []), ([], []), ([2], [2]), ([1, 3], [1, 3]), ([4], [4]), ([5], [5]), ([], []), ([7], [7]), ([8], [8]), ([9], [9]), ([10], [10]), ([11], [11]), ([6, 12], [6, 12]), ([13], [13]), ([], []), ([15], [15]), ([14, 16], [14, 16]), ([0, 17], [0, 17]), ([18, 14, 0, 1, 2, 3, 4, 5, 6, 7, 8, 9, 10, 11, 12, 13, 14, 15, 16, 17, 18], [0, 18])])
def ipv6_Encode.B17 : List Nat := [0, 0, 0, 4, 14, 30, 62, 0, 128, 384, 896, 1920, 3968, 8190, 16382, 0, 32768, 131070, 262143, 524287]
theorem ipv6_Encode.tab17 : rtab .any (opsOf Try.f15 17) = ipv6_Encode.T17 := by kernel_rfl
theorem ipv6_Encode.bits17 : waitsOk ipv6_Encode.T17.2 ipv6_Encode.B17 = true := by kernel_rfl
def ipv6_Encode.T27 : Bool × List (List Nat × List Nat) := (true, [([], []), ([0], [0]), ([1], [1]), ([2], [2]), ([], []), ([4], [4]), ([3, 5], [3, 5]), ([6], [6]), ([], []), ([8], [8]), ([9], [9]), ([], []), ([11], [11]), ([12], [12]), ([13], [13]), ([], []), ([15], [15]), ([16], [16]), ([7, 10, 14, 17], [7, 10, 14, 17]), ([18], [18]), ([19, 19, 0, 1, 2, 3, 4, 5, 6, 7, 8, 9, 10, 11, 12, 13, 14, 15, 16, 17, 18, 19], [19])])
def ipv6_Encode.B27 : List Nat := [0, 1, 3, 7, 0, 16, 63, 127, 0, 256, 768, 0, 2048, 6144, 14336, 0, 32768, 98304, 262143, 524287, 1048575]
theorem ipv6_Encode.tab27 : rtab .any (opsOf Try.f15 27) = ipv6_Encode.T27 := by kernel_rfl
theorem ipv6_Encode.bits27 : waitsOk ipv6_Encode.T27.2 ipv6_Encode.B27 = true := by kernel_rfl
def ipv6_Encode.T28 : Bool × List (List Nat × List Nat) := (true, [([], []), ([], []), ([1], [1]), ([2], [2]), ([0, 3], [0, 3]), ([], []), ([5], [5]), ([6, 3], [6]), ([4, 7], [4, 7]), ([], []), ([8, 9], [8, 9]), ([10, 7, 0, 1, 2, 3, 4, 5, 6, 7, 8, 9, 10], [10]), ([11, 0, 1, 2, 3, 4, 5, 6, 7, 8, 9, 10, 11], [])])
def ipv6_Encode.B28 : List Nat := [0, 0, 2, 6, 15, 0, 32, 110, 255, 0, 1023, 2047, 4095]
theorem ipv6_Encode.tab28 : rtab .any (opsOf Try.f15 28) = ipv6_Encode.T28 := by kernel_rfl
theorem ipv6_Encode.bits28 : waitsOk ipv6_Encode.T28.2 ipv6_Encode.B28 = true := by kernel_rfl
set_option maxHeartbeats 8000000 in
set_option maxRecDepth 100000 in
theorem ipv6_Encode.calls (k : Nat) (d0 : Int) (d1 : Int) (d2 : Int) (d3 : Int) (d4 : Bool) (d5 : Int) (d6 : Int) (d7 : Bool) (d8 : Int) (d9 : Int) (A0_10 : Option Addr) (c0_10 : Nat) (l0_10 : List (S60)) (d11 : Bool) (d12 : Int) (d13 : Int) (d14 : Bool) (d15 : ByteArray) (r1 : ByteArray) (r2 : Int) (w : World) (hr0_10 : Kd.C k60 w A0_10 l0_10.length l0_10) (hc0_10 : l0_10.length ≤ c0_10) (h : ipv6_Encode.f k d0 d1 d2 d3 d4 d5 d6 d7 d8 d9 l0_10 d11 d12 d13 d14 d15 = some (r1, r2)) :
  Calls Try.prog 15 #[.agg #[.int .i64 d0, .int .i64 d1, .int .i64 d2, .int .i64 d3, .bool d4, .int .u64 d5, .int .u64 d6, .bool d7, .int .u64 d8, .int .u64 d9, .slice A0_10 l0_10.length c0_10, .bool d11, .int .i64 d12, .int .i64 d13, .bool d14, .string d15]] w fun e w' => e = .returned (.tuple #[.string r1, .int .i64 r2]) ∧ Below w.heap.size w w' := by
 have hu28 := Try.underlying28
 have hu60 := Try.underlying60
 have hu64 := Try.underlying64
 have hu25 := Try.underlying25
 have HR0_10 := As hr0_10
 have HC0_10 := As hc0_10
 clear hr0_10 hc0_10
 have HB := As (Below.refl w.heap.size w)
 have H : ((ipv6_check.f k d0 d1 d2 d3 d4 d5 d6 d7 d8 d9 l0_10 d11 d12 d13 d14 d15).bind fun t237 => (if t237 = 0 then (ipv6_Encode.l0 k (([] : List Int)) l0_10 (l0_10.length : Int) 0 d0 d1 d2 d3 d4 d5 d6 d7 d8 d9 l0_10 d11 d12 d13 d14 d15) else (some ((⟨#[]⟩ : ByteArray), t237)))) = some (r1, r2) := h
 clear h
 replace H := Option.bind_eq_some_iff.mp H
 obtain ⟨t237, A20, H⟩ := H
 replace H : (if t237 = 0 then (ipv6_Encode.l0 k (([] : List Int)) l0_10 (l0_10.length : Int) 0 d0 d1 d2 d3 d4 d5 d6 d7 d8 d9 l0_10 d11 d12 d13 d14 d15) else (some ((⟨#[]⟩ : ByteArray), t237))) = some (r1, r2) := H
 have A2 := As A20
 clear A20
 by_cases c3 : t237 = 0
 ·rw [if_pos c3] at H
  have c3b0 : (t237 == 0) = true := beq_iff_eq.mpr c3
  have c3b1 : (t237 != 0) = false := bne_eq_false_iff_eq.mpr c3
  clear c3
  obtain ⟨y238, hy238⟩ : ∃ y_ : List Int, y_ = (([] : List Int)) := ⟨_, rfl⟩
  replace H : (ipv6_Encode.l0 k y238 l0_10 (l0_10.length : Int) 0 d0 d1 d2 d3 d4 d5 d6 d7 d8 d9 l0_10 d11 d12 d13 d14 d15) = some (r1, r2) := by first | (rw [hy238]; with_reducible exact H) | (have H2_ := (Option.bind_some _ _).symm.trans H; rw [hy238]; with_reducible exact H2_) | (have H2_ := (Option.bind_some _ _).symm.trans H; with_reducible exact H2_) | with_reducible exact H | (rw [hy238]; exact H) | exact H
  have Ny238 := As hy238
  clear hy238
  have H' := As H
  clear H
  go_enter Try.func15, Try.ntmps15
  go_wp2_with (first | ((with_reducible refine gate_dst (N := 1) rfl ?_); refine box_event rfl (N := 1) rfl (cs := #[.int .i64 d0, .int .i64 d1, .int .i64 d2, .int .i64 d3, .bool d4, .int .u64 d5, .int .u64 d6, .bool d7, .int .u64 d8, .int .u64 d9, .slice A0_10 l0_10.length c0_10, .bool d11, .int .i64 d12, .int .i64 d13, .bool d14, .string d15]) (t := 28) kG ?_; intro gb236 hg w4 hbox hb; have BK236 := As (hbox); have GW236 := As ((by rw [hg]; exact (below_size (kB HB.out)) : w.heap.size ≤ gb236)); have GE236 := As ((by rw [hg]; exact (below_size (kB HB.out)) : w.heap.size ≤ gb236)); replace HB := As (below_step (kB HB.out) hb); clear hb hbox hg) | ((with_reducible refine gate_dst (N := 13) rfl ?_); refine wpList_load_row rfl 28 _ rfl gb236 rfl 28 _ (0, 0) _ (kb BK236.out) Try.underlying28 rfl (by kernel_rfl) ?_) | ((with_reducible refine gate_callee (f := 34) rfl ?_); refine goesL_ (some 14) rfl rfl Try.func34 (by kernel_rfl) rfl #[.agg #[.int .i64 d0, .int .i64 d1, .int .i64 d2, .int .i64 d3, .bool d4, .int .u64 d5, .int .u64 d6, .bool d7, .int .u64 d8, .int .u64 d9, .slice A0_10 l0_10.length c0_10, .bool d11, .int .i64 d12, .int .i64 d13, .bool d14, .string d15]] rfl kA ?_; (with_reducible refine (ipv6_check.calls k d0 d1 d2 d3 d4 d5 d6 d7 d8 d9 _ _ l0_10 d11 d12 d13 d14 d15 t237 _ ?side1 ?side2 A2.out).mono ?_); (case side1 => repeat (first | exact (Kd.C_below HR0_10.out HB.out) | (with_reducible refine Kd.C_alloc ?_ _) | (with_reducible refine Kd.C_drewN ?_ _) | (with_reducible refine Kd.C_drew ?_))); (case side2 => exact HC0_10.out); rintro e w5 ⟨rfl, hb⟩; refine ⟨_, rfl, ?_⟩; replace BK236 := As (blk_below (kb BK236.out) hb); replace HB := As (below_step (kB1 HB.out GE236.out) hb); (try clear hb)) | ((with_reducible refine gate_dst (N := 18) rfl ?_); refine Kd.R_lit (Kd.int .i64) _ 3 rfl (N := 18) rfl (xs := ([] : List Int)) (inner := []) (ok := fun _ => True) (okp := fun _ => True) kG ?hp (fun _ hk => hk) trivial (Below.refl _ _) (Nat.le_refl _) (by simp) ?_; (case hp => exact (Reps.none _ _)); intro v239 w6 ho7 hb hg_ hnew_; clear hg_ hnew_; (first | rw [← Ny238.out] at ho7 | (simp only [Int.reduceToNat] at ho7; rw [← Ny238.out] at ho7)); have HO240 := As (Kd.R_lower ho7 (below_size (kB1 HB.out GE236.out))); replace BK236 := As (blk_below (kb BK236.out) hb); replace HB := As (below_step (kB1 HB.out GE236.out) hb); clear hb ho7; have hcz8_0 := cells_16 BK236.out; have hfz8_0 := fun j_ => blk_frozen BK236.out j_))
  go_loopg [5, 22] k (fun kq v5 v22 w' => ∃ (x5_1 : List Int) (x22_1 : Int), v22 = .int .i64 x22_1 ∧ Aside0 (ipv6_Encode.l0 kq x5_1 l0_10 (l0_10.length : Int) x22_1 d0 d1 d2 d3 d4 d5 d6 d7 d8 d9 l0_10 d11 d12 d13 d14 d15 = some (r1, r2)) ∧ Aside0 (kq ≤ k) ∧ Aside0 (Kd.R (Kd.int .i64) 3 w' w.heap.size (fun _ => True) v5 x5_1) ∧ Aside0 (w'.heap[gb236]? = some (.cells #[.int .i64 d0, .int .i64 d1, .int .i64 d2, .int .i64 d3, .bool d4, .int .u64 d5, .int .u64 d6, .bool d7, .int .u64 d8, .int .u64 d9, (.slice A0_10 l0_10.length c0_10), .bool d11, .int .i64 d12, .int .i64 d13, .bool d14, .string d15] 28 (0, 0))) ∧ Aside0 (Below w.heap.size w w'))
  case atStart => exact ⟨(y238), (0), kS, H', ⟨Nat.le_refl _⟩, ⟨by (with_reducible repeat (first | apply Kd.R_alloc | apply Kd.R_drewN | apply Kd.R_drew)); exact HO240.out⟩, ⟨kb BK236.out⟩, ⟨kB1 HB.out GE236.out⟩⟩
  clear H'
  try clear c3
  try clear c3b0
  try clear c3b1
  try clear hcz8_0
  try clear hfz8_0
  obtain ⟨x5_1, x22_1, rfl, HA, HK1, HO_5, BK236, HB⟩ := hrel
  cases gk with
  | zero => exact absurd HA.out (by simp [ipv6_Encode.l0])
  | succ k1 =>
   have H := HA.out
   clear HA
   simp only [ipv6_Encode.l0] at H
   by_cases c9 : x22_1 < (l0_10.length : Int)
   ·rw [if_pos c9] at H
    have c9b0 : decide (x22_1 < (l0_10.length : Int)) = true := decide_eq_true c9
    clear c9
    by_cases c10 : 0 ≤ x22_1
    ·rw [if_pos c10] at H
     have c10b0 : decide (0 ≤ x22_1) = true := decide_eq_true c10
     clear c10
     by_cases c11 : x22_1 < (l0_10.length : Int)
     ·rw [if_pos c11] at H
      have c11b0 : decide (x22_1 < (l0_10.length : Int)) = true := decide_eq_true c11
      clear c11
      by_cases c12 : x5_1.length < 17592186044416
      ·rw [if_pos c12] at H
       have LMc12 := As c12
       clear c12
       obtain ⟨y243, hy243⟩ : ∃ y_ : List Int, y_ = (x5_1 ++ [(rd_T60 l0_10 x22_1).f0]) := ⟨_, rfl⟩
       replace H : (ipv6_Encode.l0 k1 y243 l0_10 (l0_10.length : Int) (wrap64 (x22_1 + 1)) d0 d1 d2 d3 d4 d5 d6 d7 d8 d9 l0_10 d11 d12 d13 d14 d15) = some (r1, r2) := by first | (rw [hy243]; with_reducible exact H) | (have H2_ := (Option.bind_some _ _).symm.trans H; rw [hy243]; with_reducible exact H2_) | (have H2_ := (Option.bind_some _ _).symm.trans H; with_reducible exact H2_) | with_reducible exact H | (rw [hy243]; exact H) | exact H
       have Ny243 := As hy243
       clear hy243
       have H' := As H
       clear H
       have p241 : 0 ≤ (x22_1 : Int) := of_decide_eq_true (by first | (with_reducible assumption) | assumption)
       have q241 : x22_1 < (l0_10.length : Int) := of_decide_eq_true (by first | (with_reducible assumption) | assumption)
       obtain ⟨ad241, e241, hx241_0, hx241_1⟩ := at_T60 HR0_10.out x22_1 p241 q241
       cases e241
       replace hx241_0 := hcell HB.out hx241_0
       replace hx241_1 := hcell HB.out hx241_1
       replace p241 := eq_true p241
       replace q241 := eq_true q241
       go_wp2_with (first | ((with_reducible refine gate_dst (N := 7) rfl ?_); refine box_event rfl (N := 7) rfl (cs := #[.int .i64 0, .string (⟨#[]⟩ : ByteArray)]) (t := 60) kG ?_; intro gb242 hg w13 hbox hb; replace HO_5 := As (Kd.R_below (kR HO_5.out) hb); have BK242 := As (hbox); have GW242 := As ((by rw [hg]; exact (below_size (kB1 HB.out GE236.out)) : w.heap.size ≤ gb242)); have GE242 := As ((by rw [hg]; exact (below_size (kB1 HB.out GE236.out)) : w.heap.size ≤ gb242)); replace HB := As (below_step (kB1 HB.out GE236.out) hb); have NB236_242 := As ((by rw [hg]; exact Nat.ne_of_lt (blk_lt (kb BK236.out)) : gb236 ≠ gb242)); have NB242_236 := As ((by rw [hg]; exact Nat.ne_of_gt (blk_lt (kb BK236.out)) : gb242 ≠ gb236)); replace BK236 := As (blk_below (kb BK236.out) hb); clear hb hbox hg; have hnb14 := NB242_236.out; have hnc14 := NB236_242.out; have hcz15_0 := cells_2 BK242.out; have hfz15_0 := fun j_ => blk_frozen BK242.out j_) | ((with_reducible refine gate_builtin (b := .append) (xs := #[.tmp 26, .tmp 29]) rfl ?_); at_builtin; refine Kd.R_append (Kd.int .i64) (w0 := w) w.heap.size rfl (.tmp 26) (.tmp 29) 62 3 (.int .i64 0) 8 rfl Try.underlying62 info3 rfl (by decide) (by omega) u5 x5_1 ((rd_T60 l0_10 x22_1).f0) [.int .i64 ((rd_T60 l0_10 x22_1).f0)] (fun _ => True) (fun _ => False) rfl (by first | (go_simp; done) | (go_simp; rfl)) ?aP (fun _ hk => hk.elim) ?aF ?aO ?aB ?aS ?aL ?_; (case aP => exact rfl); (case aB => exact (kB2 HB.out GE236.out GE242.out)); (case aF => exact (fun _ _ => trivial)); (case aO => exact (by (with_reducible repeat (first | apply Kd.R_alloc | apply Kd.R_drewN | apply Kd.R_drew)); exact Kd.R_mono (Kd.R_far (p := ⟨gb242, 1, none⟩) (Kd.R_far (p := ⟨gb242, 0, none⟩) (Kd.R_types HO_5.out BK242.out (by decide)) (fun _ hk => hk.2) (.int .i64 ((rd_T60 l0_10 x22_1).f0))) (fun _ hk => hk.2) (.string ((rd_T60 l0_10 x22_1).f1))) (fun _ hk => trivial))); (case aS => exact (below_size (kB2 HB.out GE236.out GE242.out))); (case aL => have := LMc12.out; omega); intro v244 w16 ho hb hg hat; rw [← Ny243.out] at ho; replace BK236 := As (blk_grown (g := gb236) (o := .cells #[.int .i64 d0, .int .i64 d1, .int .i64 d2, .int .i64 d3, .bool d4, .int .u64 d5, .int .u64 d6, .bool d7, .int .u64 d8, .int .u64 d9, .slice (some ad241) l0_10.length c0_10, .bool d11, .int .i64 d12, .int .i64 d13, .bool d14, .string d15] 28 (0, 0)) (by refine kb ?_; refine blk_far ?_ NB236_242.out _; refine kb ?_; refine blk_far ?_ NB236_242.out _; exact kb BK236.out) hg (Kd.R_ne HO_5.out BK236.out (by decide))); replace BK242 := As (blk_grown (g := gb242) (o := .cells #[.int .i64 ((rd_T60 l0_10 x22_1).f0), .string ((rd_T60 l0_10 x22_1).f1)] 60 (0, 0)) (by refine kb ?_; refine blk_put (cs := #[.int .i64 ((rd_T60 l0_10 x22_1).f0), .string (⟨#[]⟩ : ByteArray)]) ?_ 1 _ rfl; refine kb ?_; refine blk_put (cs := #[.int .i64 0, .string (⟨#[]⟩ : ByteArray)]) ?_ 0 _ rfl; exact kb BK242.out) hg (Kd.R_ne HO_5.out BK242.out (by decide))); replace HB := As (hb); have HO245 := As (ho); clear HO_5; clear ho hb hg hat))
       go_roundg k1
       case measure => have := HK1.out; omega
       case rel => exact ⟨(y243), (wrap64 (x22_1 + 1)), kS, H', ⟨by have := HK1.out; omega⟩, ⟨by (with_reducible repeat (first | apply Kd.R_alloc | apply Kd.R_drewN | apply Kd.R_drew)); exact HO245.out⟩, ⟨kb BK236.out⟩, ⟨kB2 HB.out GE236.out GE242.out⟩⟩
      rw [if_neg c12] at H
      exact absurd H (by simp)
     rw [if_neg c11] at H
     exact absurd H (by simp)
    rw [if_neg c10] at H
    exact absurd H (by simp)
   rw [if_neg c9] at H
   have c9b0 : decide (x22_1 < (l0_10.length : Int)) = false := decide_eq_false c9
   clear c9
   have HC17 := As H
   clear H
   have hcz18_0 := cells_16 BK236.out
   have hfz18_0 := fun j_ => blk_frozen BK236.out j_
   go_upto_if 33 with (fail)
   go_cut [5] (fun v5 wc => ∃ (kq : Nat) (x5_16 : List Int), Aside0 (ipv6_Encode.j1 kq x5_16 d0 d1 d2 d3 d4 d5 d6 d7 d8 d9 l0_10 d11 d12 d13 d14 d15 = some (r1, r2)) ∧ Aside0 (kq ≤ k1) ∧ Aside0 (Kd.R (Kd.int .i64) 3 wc w.heap.size (fun _ => True) v5 x5_16) ∧ Aside0 (wc.heap[gb236]? = some (.cells #[.int .i64 d0, .int .i64 d1, .int .i64 d2, .int .i64 d3, .bool d4, .int .u64 d5, .int .u64 d6, .bool d7, .int .u64 d8, .int .u64 d9, (.slice A0_10 l0_10.length c0_10), .bool d11, .int .i64 d12, .int .i64 d13, .bool d14, .string d15] 28 (0, 0))) ∧ Aside0 (Below w.heap.size w wc))
   case first =>
    have H := HC17.out
    clear HC17
    by_cases c19 : d11 = true
    ·subst c19
     have H1 : (if x5_1.length < 17592186044416 then (ipv6_Encode.j1 k1 (x5_1 ++ [44]) d0 d1 d2 d3 d4 d5 d6 d7 d8 d9 l0_10 true d12 d13 d14 d15) else (none)) = some (r1, r2) := by rw [if_pos rfl] at H; exact H
     clear H
     have H := H1
     clear H1
     by_cases c20 : x5_1.length < 17592186044416
     ·rw [if_pos c20] at H
      have LMc20 := As c20
      clear c20
      obtain ⟨y246, hy246⟩ : ∃ y_ : List Int, y_ = (x5_1 ++ [44]) := ⟨_, rfl⟩
      replace H : (ipv6_Encode.j1 k1 y246 d0 d1 d2 d3 d4 d5 d6 d7 d8 d9 l0_10 true d12 d13 d14 d15) = some (r1, r2) := by first | (rw [hy246]; with_reducible exact H) | (have H2_ := (Option.bind_some _ _).symm.trans H; rw [hy246]; with_reducible exact H2_) | (have H2_ := (Option.bind_some _ _).symm.trans H; with_reducible exact H2_) | with_reducible exact H | (rw [hy246]; exact H) | exact H
      have Ny246 := As hy246
      clear hy246
      have H' := As H
      clear H
      go_wp2_with (first | ((with_reducible refine gate_builtin (b := .append) (xs := #[.tmp 34, .tmp 35]) rfl ?_); at_builtin; refine Kd.R_append (Kd.int .i64) (w0 := w) w.heap.size rfl (.tmp 34) (.tmp 35) 62 3 (.int .i64 0) 8 rfl Try.underlying62 info3 rfl (by decide) (by omega) u5 x5_1 44 [.int .i64 44] (fun _ => True) (fun _ => False) rfl rfl ?aP (fun _ hk => hk.elim) ?aF ?aO ?aB ?aS ?aL ?_; (case aP => exact rfl); (case aB => exact (kB1 HB.out GE236.out)); (case aF => exact (fun _ _ => trivial)); (case aO => exact (kR HO_5.out)); (case aS => exact (below_size (kB1 HB.out GE236.out))); (case aL => have := LMc20.out; omega); intro v247 w21 ho hb hg hat; rw [← Ny246.out] at ho; replace BK236 := As (blk_grown (kb BK236.out) hg (Kd.R_ne HO_5.out BK236.out (by decide))); replace HB := As (hb); have HO248 := As (ho); clear HO_5; clear ho hb hg hat))
      go_meet
      case rel => exact ⟨_, (y246), H', ⟨by have := HK1.out; first | omega | exact Nat.le_refl _⟩, ⟨by (with_reducible repeat (first | apply Kd.R_alloc | apply Kd.R_drewN | apply Kd.R_drew)); exact HO248.out⟩, ⟨kb BK236.out⟩, ⟨kB1 HB.out GE236.out⟩⟩
     rw [if_neg c20] at H
     exact absurd H (by simp)
    replace c19 := Bool.eq_false_iff.mpr c19
    subst c19
    have H1 : (ipv6_Encode.j1 k1 x5_1 d0 d1 d2 d3 d4 d5 d6 d7 d8 d9 l0_10 false d12 d13 d14 d15) = some (r1, r2) := by rw [if_neg (show ¬ (false = true) by decide)] at H; exact H
    clear H
    have H := H1
    clear H1
    have H' := As H
    clear H
    go_wp2
    go_meet
    case rel => exact ⟨_, (x5_1), H', ⟨by have := HK1.out; first | omega | exact Nat.le_refl _⟩, ⟨by (with_reducible repeat (first | apply Kd.R_alloc | apply Kd.R_drewN | apply Kd.R_drew)); exact HO_5.out⟩, ⟨kb BK236.out⟩, ⟨kB1 HB.out GE236.out⟩⟩
   clear HC17
   try clear c9
   try clear c9b0
   try clear hcz18_0
   try clear hfz18_0
   obtain ⟨kq, x5_16, HA, HJ16, HO_5, BK236, HB⟩ := hcut
   cases kq with
   | zero => exact absurd HA.out (by simp [ipv6_Encode.j1])
   | succ kj16 =>
    have H := HA.out
    clear HA
    simp only [ipv6_Encode.j1] at H
    by_cases c22 : x5_16.length < 17592186044416
    ·rw [if_pos c22] at H
     have LMc22 := As c22
     clear c22
     obtain ⟨y249, hy249⟩ : ∃ y_ : List Int, y_ = (x5_16 ++ [d3]) := ⟨_, rfl⟩
     replace H : (ipv6_Encode.l1 kj16 y249 (⟨#[]⟩ : ByteArray) l0_10 (l0_10.length : Int) 0 d0 d1 d2 d3 d4 d5 d6 d7 d8 d9 l0_10 d11 d12 d13 d14 d15) = some (r1, r2) := by first | (rw [hy249]; with_reducible exact H) | (have H2_ := (Option.bind_some _ _).symm.trans H; rw [hy249]; with_reducible exact H2_) | (have H2_ := (Option.bind_some _ _).symm.trans H; with_reducible exact H2_) | with_reducible exact H | (rw [hy249]; exact H) | exact H
     have Ny249 := As hy249
     clear hy249
     have H' := As H
     clear H
     have hcz23_0 := cells_16 BK236.out
     have hfz23_0 := fun j_ => blk_frozen BK236.out j_
     go_wp2_with (first | ((with_reducible refine gate_builtin (b := .append) (xs := #[.tmp 37, .tmp 40]) rfl ?_); at_builtin; refine Kd.R_append (Kd.int .i64) (w0 := w) w.heap.size rfl (.tmp 37) (.tmp 40) 62 3 (.int .i64 0) 8 rfl Try.underlying62 info3 rfl (by decide) (by omega) u5 x5_16 d3 [.int .i64 d3] (fun _ => True) (fun _ => False) rfl rfl ?aP (fun _ hk => hk.elim) ?aF ?aO ?aB ?aS ?aL ?_; (case aP => exact rfl); (case aB => exact (kB1 HB.out GE236.out)); (case aF => exact (fun _ _ => trivial)); (case aO => exact (kR HO_5.out)); (case aS => exact (below_size (kB1 HB.out GE236.out))); (case aL => have := LMc22.out; omega); intro v250 w24 ho hb hg hat; rw [← Ny249.out] at ho; replace BK236 := As (blk_grown (kb BK236.out) hg (Kd.R_ne HO_5.out BK236.out (by decide))); replace HB := As (hb); have HO251 := As (ho); clear HO_5; clear ho hb hg hat; have hcz25_0 := cells_16 BK236.out; have hfz25_0 := fun j_ => blk_frozen BK236.out j_))
     go_loopg [8, 45] kj16 (fun kq v8 v45 w' => ∃ (x8_3 : ByteArray) (x45_3 : Int), v8 = .string x8_3 ∧ v45 = .int .i64 x45_3 ∧ Aside0 (ipv6_Encode.l1 kq y249 x8_3 l0_10 (l0_10.length : Int) x45_3 d0 d1 d2 d3 d4 d5 d6 d7 d8 d9 l0_10 d11 d12 d13 d14 d15 = some (r1, r2)) ∧ Aside0 (kq ≤ kj16) ∧ Aside0 (Kd.R (Kd.int .i64) 3 w' w.heap.size (fun _ => True) v250 y249) ∧ Aside0 (w'.heap[gb236]? = some (.cells #[.int .i64 d0, .int .i64 d1, .int .i64 d2, .int .i64 d3, .bool d4, .int .u64 d5, .int .u64 d6, .bool d7, .int .u64 d8, .int .u64 d9, (.slice A0_10 l0_10.length c0_10), .bool d11, .int .i64 d12, .int .i64 d13, .bool d14, .string d15] 28 (0, 0))) ∧ Aside0 (Below w.heap.size w w'))
     case atStart => exact ⟨((⟨#[]⟩ : ByteArray)), (0), kS, kS, H', ⟨Nat.le_refl _⟩, ⟨by (with_reducible repeat (first | apply Kd.R_alloc | apply Kd.R_drewN | apply Kd.R_drew)); exact HO251.out⟩, ⟨kb BK236.out⟩, ⟨kB1 HB.out GE236.out⟩⟩
     clear H'
     try clear c22
     try clear hcz23_0
     try clear hcz25_0
     try clear hfz23_0
     try clear hfz25_0
     obtain ⟨x8_3, x45_3, rfl, rfl, HA, HK3, HO_5, BK236, HB⟩ := hrel
     cases gk with
     | zero => exact absurd HA.out (by simp [ipv6_Encode.l1])
     | succ k3 =>
      have H := HA.out
      clear HA
      simp only [ipv6_Encode.l1] at H
      by_cases c26 : x45_3 < (l0_10.length : Int)
      ·rw [if_pos c26] at H
       have c26b0 : decide (x45_3 < (l0_10.length : Int)) = true := decide_eq_true c26
       clear c26
       by_cases c27 : 0 ≤ x45_3
       ·rw [if_pos c27] at H
        have c27b0 : decide (0 ≤ x45_3) = true := decide_eq_true c27
        clear c27
        by_cases c28 : x45_3 < (l0_10.length : Int)
        ·rw [if_pos c28] at H
         have c28b0 : decide (x45_3 < (l0_10.length : Int)) = true := decide_eq_true c28
         clear c28
         obtain ⟨ji29, hji29⟩ : ∃ j_ : Int, (wrap64 (x45_3 + 1)) = j_ := ⟨_, rfl⟩
         replace H : (if 0 ≤ (ji29) then (if (ji29) < (y249.length : Int) then ((ipv6_join.f k3 (([(⟨rd y249 (ji29), 1⟩ : S64), (⟨wrap64 (Int.tdiv (wrap64 ((((rd_T60 l0_10 x45_3).f1).size : Int) - 6)) 8), 1⟩ : S64)] : List (S64)))).bind fun t258 => (if t258.size + ((rd_T60 l0_10 x45_3).f1).size ≤ 9223372036854775807 then (if x8_3.size + (t258 ++ ((rd_T60 l0_10 x45_3).f1)).size ≤ 9223372036854775807 then (ipv6_Encode.l1 k3 y249 (x8_3 ++ (t258 ++ ((rd_T60 l0_10 x45_3).f1))) l0_10 (l0_10.length : Int) ji29 d0 d1 d2 d3 d4 d5 d6 d7 d8 d9 l0_10 d11 d12 d13 d14 d15) else (none)) else (none))) else (none)) else (none)) = some (r1, r2) := by first | (rw [hji29] at H; exact H) | (simp only [hji29] at H ⊢; exact H)
         have hji29w : (IntKind.i64.wrap (x45_3 + 1)) = ji29 := (i64_w _).trans hji29
         by_cases c30 : 0 ≤ (ji29)
         ·rw [if_pos c30] at H
          have c30b0 : decide (0 ≤ (ji29)) = true := decide_eq_true c30
          clear c30
          by_cases c31 : (ji29) < (y249.length : Int)
          ·rw [if_pos c31] at H
           have c31b0 : decide ((ji29) < (y249.length : Int)) = true := decide_eq_true c31
           clear c31
           obtain ⟨y255, hy255⟩ : ∃ y_ : List (S64), y_ = (([(⟨rd y249 (ji29), 1⟩ : S64), (⟨wrap64 (Int.tdiv (wrap64 ((((rd_T60 l0_10 x45_3).f1).size : Int) - 6)) 8), 1⟩ : S64)] : List (S64))) := ⟨_, rfl⟩
           replace H : ((ipv6_join.f k3 y255).bind fun t258 => (if t258.size + ((rd_T60 l0_10 x45_3).f1).size ≤ 9223372036854775807 then (if x8_3.size + (t258 ++ ((rd_T60 l0_10 x45_3).f1)).size ≤ 9223372036854775807 then (ipv6_Encode.l1 k3 y249 (x8_3 ++ (t258 ++ ((rd_T60 l0_10 x45_3).f1))) l0_10 (l0_10.length : Int) ji29 d0 d1 d2 d3 d4 d5 d6 d7 d8 d9 l0_10 d11 d12 d13 d14 d15) else (none)) else (none))) = some (r1, r2) := by first | (rw [hy255]; with_reducible exact H) | (have H2_ := (Option.bind_some _ _).symm.trans H; rw [hy255]; with_reducible exact H2_) | (have H2_ := (Option.bind_some _ _).symm.trans H; with_reducible exact H2_) | with_reducible exact H | (rw [hy255]; exact H) | exact H
           have Ny255 := As hy255
           clear hy255
           replace H := Option.bind_eq_some_iff.mp H
           obtain ⟨t258, A320, H⟩ := H
           replace H : (if t258.size + ((rd_T60 l0_10 x45_3).f1).size ≤ 9223372036854775807 then (if x8_3.size + (t258 ++ ((rd_T60 l0_10 x45_3).f1)).size ≤ 9223372036854775807 then (ipv6_Encode.l1 k3 y249 (x8_3 ++ (t258 ++ ((rd_T60 l0_10 x45_3).f1))) l0_10 (l0_10.length : Int) ji29 d0 d1 d2 d3 d4 d5 d6 d7 d8 d9 l0_10 d11 d12 d13 d14 d15) else (none)) else (none)) = some (r1, r2) := H
           have A32 := As A320
           clear A320
           by_cases c33 : t258.size + ((rd_T60 l0_10 x45_3).f1).size ≤ 9223372036854775807
           ·rw [if_pos c33] at H
            have c33b0 := eq_true c33
            have c33b1 : decide (t258.size + ((rd_T60 l0_10 x45_3).f1).size ≤ 9223372036854775807) = true := decide_eq_true c33
            try have c33b2 : (9223372036854775807 < t258.size + ((rd_T60 l0_10 x45_3).f1).size) = False := eq_false (Nat.not_lt.2 c33)
            by_cases c34 : x8_3.size + (t258 ++ ((rd_T60 l0_10 x45_3).f1)).size ≤ 9223372036854775807
            ·rw [if_pos c34] at H
             have c34b0 := eq_true c34
             have c34b1 : decide (x8_3.size + (t258 ++ ((rd_T60 l0_10 x45_3).f1)).size ≤ 9223372036854775807) = true := decide_eq_true c34
             (try (have c34s0 : (9223372036854775807 < x8_3.size + (t258.size + ((rd_T60 l0_10 x45_3).f1).size)) = False := by have h_ := c34; simp only [ByteArray.size_append, ByteArray.size_extract] at h_; exact eq_false (by first | omega | (omega))))
             (try (have c34s1 : (9223372036854775807 < x8_3.size + t258.size + rd_T60 l0_10 x45_3.f1.size) = False := by have h_ := c34; simp only [ByteArray.size_append, ByteArray.size_extract] at h_; exact eq_false (by first | omega | (omega))))
             (try (have c34s2 : (x8_3.size + (t258.size + ((rd_T60 l0_10 x45_3).f1).size) ≤ 9223372036854775807) = True := by have h_ := c34; simp only [ByteArray.size_append, Int.natCast_add, Int.toNat_natCast] at h_; first | exact eq_true h_ | exact eq_true (by omega)))
             (try (have c34s3 : decide (x8_3.size + (t258.size + ((rd_T60 l0_10 x45_3).f1).size) ≤ 9223372036854775807) = true := by have h_ := c34; first | (simp only [ByteArray.size_append, Int.toNat_natCast] at h_; first | exact beq_iff_eq.mpr h_ | exact beq_eq_false_iff_ne.mpr h_ | exact bne_iff_ne.mpr h_ | exact bne_eq_false_iff_eq.mpr h_ | (rw [beq_iff_eq.mpr h_]; rfl) | (rw [beq_eq_false_iff_ne.mpr h_]; rfl)) | (simp only [ByteArray.size_append, Int.natCast_add, Int.toNat_natCast] at h_ ⊢; first | exact h_ | simpa using h_ | simp [h_] | omega) | (simp only [ByteArray.size_append] at h_; simp at h_ ⊢; omega) | (simp only [ByteArray.size_append, Int.natCast_add, Int.toNat_natCast] at h_; simpa using h_)))
             try have c34b2 : (9223372036854775807 < x8_3.size + (t258 ++ ((rd_T60 l0_10 x45_3).f1)).size) = False := eq_false (Nat.not_lt.2 c34)
             have H' := As H
             clear H
             have p252 : 0 ≤ (x45_3 : Int) := of_decide_eq_true (by first | (with_reducible assumption) | assumption)
             have q252 : x45_3 < (l0_10.length : Int) := of_decide_eq_true (by first | (with_reducible assumption) | assumption)
             obtain ⟨ad252, e252, hx252_0, hx252_1⟩ := at_T60 HR0_10.out x45_3 p252 q252
             cases e252
             replace hx252_0 := hcell HB.out hx252_0
             replace hx252_1 := hcell HB.out hx252_1
             replace p252 := eq_true p252
             replace q252 := eq_true q252
             try go_wp2_with (first | ((with_reducible refine gate_dst (N := 10) rfl ?_); refine box_event rfl (N := 10) rfl (cs := #[.int .i64 0, .string (⟨#[]⟩ : ByteArray)]) (t := 60) kG ?_; intro gb253 hg w35 hbox hb; replace HO_5 := As (Kd.R_below (kR HO_5.out) hb); have BK253 := As (hbox); have GW253 := As ((by rw [hg]; exact (below_size (kB1 HB.out GE236.out)) : w.heap.size ≤ gb253)); have GE253 := As ((by rw [hg]; exact (below_size (kB1 HB.out GE236.out)) : w.heap.size ≤ gb253)); replace HB := As (below_step (kB1 HB.out GE236.out) hb); have NB236_253 := As ((by rw [hg]; exact Nat.ne_of_lt (blk_lt (kb BK236.out)) : gb236 ≠ gb253)); have NB253_236 := As ((by rw [hg]; exact Nat.ne_of_gt (blk_lt (kb BK236.out)) : gb253 ≠ gb236)); replace BK236 := As (blk_below (kb BK236.out) hb); clear hb hbox hg; have hnb36 := NB253_236.out; have hnc36 := NB236_253.out; have hcz37_0 := cells_2 BK253.out; have hfz37_0 := fun j_ => blk_frozen BK253.out j_))
             have n0_ : Aside0 (Kd.R (Kd.int .i64) 3 ((w35.setCell ⟨gb253, 0, none⟩ (.int .i64 ((rd_T60 l0_10 x45_3).f0))).setCell ⟨gb253, 1, none⟩ (.string ((rd_T60 l0_10 x45_3).f1))) w.heap.size (fun _ => True) v250 y249) := ⟨by (with_reducible repeat (first | apply Kd.R_alloc | apply Kd.R_drewN | apply Kd.R_drew)); exact Kd.R_mono (Kd.R_far (p := ⟨gb253, 1, none⟩) (Kd.R_far (p := ⟨gb253, 0, none⟩) (Kd.R_types HO_5.out BK253.out (by decide)) (fun _ hk => hk.2) (.int .i64 ((rd_T60 l0_10 x45_3).f0))) (fun _ hk => hk.2) (.string ((rd_T60 l0_10 x45_3).f1))) (fun _ hk => trivial)⟩
             have n1_ : Aside0 (((w35.setCell ⟨gb253, 0, none⟩ (.int .i64 ((rd_T60 l0_10 x45_3).f0))).setCell ⟨gb253, 1, none⟩ (.string ((rd_T60 l0_10 x45_3).f1))).heap[gb236]? = some (.cells #[.int .i64 d0, .int .i64 d1, .int .i64 d2, .int .i64 d3, .bool d4, .int .u64 d5, .int .u64 d6, .bool d7, .int .u64 d8, .int .u64 d9, .slice (some ad252) l0_10.length c0_10, .bool d11, .int .i64 d12, .int .i64 d13, .bool d14, .string d15] 28 (0, 0))) := ⟨by refine kb ?_; refine blk_far ?_ NB236_253.out _; refine kb ?_; refine blk_far ?_ NB236_253.out _; exact kb BK236.out⟩
             have n2_ : Aside0 (((w35.setCell ⟨gb253, 0, none⟩ (.int .i64 ((rd_T60 l0_10 x45_3).f0))).setCell ⟨gb253, 1, none⟩ (.string ((rd_T60 l0_10 x45_3).f1))).heap[gb253]? = some (.cells #[.int .i64 ((rd_T60 l0_10 x45_3).f0), .string ((rd_T60 l0_10 x45_3).f1)] 60 (0, 0))) := ⟨by refine kb ?_; refine blk_put (cs := #[.int .i64 ((rd_T60 l0_10 x45_3).f0), .string (⟨#[]⟩ : ByteArray)]) ?_ 1 _ rfl; refine kb ?_; refine blk_put (cs := #[.int .i64 0, .string (⟨#[]⟩ : ByteArray)]) ?_ 0 _ rfl; exact kb BK253.out⟩
             have n3_ : Aside0 (Below w.heap.size w ((w35.setCell ⟨gb253, 0, none⟩ (.int .i64 ((rd_T60 l0_10 x45_3).f0))).setCell ⟨gb253, 1, none⟩ (.string ((rd_T60 l0_10 x45_3).f1)))) := ⟨kB2 HB.out GE236.out GE253.out⟩
             (try clear HO_5)
             (try clear BK236)
             (try clear BK253)
             (try clear HB)
             generalize ((w35.setCell ⟨gb253, 0, none⟩ (.int .i64 ((rd_T60 l0_10 x45_3).f0))).setCell ⟨gb253, 1, none⟩ (.string ((rd_T60 l0_10 x45_3).f1))) = w38 at n0_ n1_ n2_ n3_ ⊢
             have HO_5 := n0_
             have BK236 := n1_
             have BK253 := n2_
             have HB := n3_
             clear n0_ n1_ n2_ n3_
             replace HO_5 := As (Kd.R_drew HO_5.out)
             replace BK236 := As (blk_drew BK236.out)
             replace BK253 := As (blk_drew BK253.out)
             replace HB := As (below_drew1 HB.out)
             obtain ⟨Ao40, co40, eo40⟩ := Kd.R_slice HO_5.out
             (first | subst eo40 | (injection eo40 with f1_ f2_ f3_; have f4_ := f1_.symm; have f5_ := f3_.symm; clear f1_ f2_ f3_; subst f4_; subst f5_))
             have p254 : 0 ≤ ((ji29) : Int) := of_decide_eq_true (by first | (with_reducible assumption) | assumption)
             have q254 : (ji29) < (y249.length : Int) := of_decide_eq_true (by first | (with_reducible assumption) | assumption)
             obtain ⟨ad254, e254, hx254_0⟩ := Kd.at_int (Kd.R_reads' HO_5.out).2.2 (ji29) p254 q254
             cases e254
             replace p254 := eq_true p254
             replace q254 := eq_true q254
             refine start_ (n := 20) (S := fun w' => w'.cell? ⟨gb253, 0, none⟩ = some (.int .i64 ((rd_T60 l0_10 x45_3).f0)) ∧ w'.cell? ⟨gb253, 1, none⟩ = some (.string ((rd_T60 l0_10 x45_3).f1)) ∧ w'.cell? (ad254.add ((ji29)).toNat) = some (.int .i64 (rd y249 (ji29)))) (ds := []) #[false, false, false, false, false, false, false, false, false, false, false, false, false, false, false, false, false, false, false, false] (by kernel_rfl) rfl rfl ⟨(blk_cell BK253.out 0).trans rfl, (blk_cell BK253.out 1).trans rfl, hx254_0⟩ (fun hHeld => ?_); refine with_tabW ipv6_Encode.tab17 ipv6_Encode.bits17 (fun HT_ HW_ => ?_)
             generalize w38.drew = w39 at HO_5 BK236 BK253 HB hx254_0 hHeld ⊢
             refine kP 0 50 #[true, false, false, false, false, false, false, false, false, false, false, false, false, false, false, false, false, false, false, false] ?_ (any_of HT_.out (by kernel_rfl))
             refine kP 1 51 #[true, true, false, false, false, false, false, false, false, false, false, false, false, false, false, false, false, false, false, false] ?_ (any_of HT_.out (by kernel_rfl))
             refine kP 2 52 #[true, true, true, false, false, false, false, false, false, false, false, false, false, false, false, false, false, false, false, false] ?_ (any_of HT_.out (by kernel_rfl))
             refine kP 3 53 #[true, true, true, true, false, false, false, false, false, false, false, false, false, false, false, false, false, false, false, false] ?_ (any_of HT_.out (by kernel_rfl))
             refine kP 4 54 #[true, true, true, true, true, false, false, false, false, false, false, false, false, false, false, false, false, false, false, false] ?_ (any_of HT_.out (by kernel_rfl))
             refine kP 7 57 #[true, true, true, true, true, false, false, true, false, false, false, false, false, false, false, false, false, false, false, false] ?_ (any_of HT_.out (by kernel_rfl))
             refine kP 15 65 #[true, true, true, true, true, false, false, true, false, false, false, false, false, false, false, true, false, false, false, false] ?_ (any_of HT_.out (by kernel_rfl))
             refine take_ (i := 5) (N := some 55) (v := ?_) (a' := ?_) #[true, true, true, true, true, true, false, true, false, false, false, false, false, false, false, true, false, false, false, false] rfl rfl (take_ofW HT_.out HW_.out (by kernel_rfl)) (fun _ _ _ h => h) (Or.inl ⟨by rfl, ?_⟩) hHeld ?_ ?_
             rotate_left
             ·rintro w' ⟨s0, s1, s2⟩
              go_simp
              with_reducible rfl
             rotate_left
             ·simp only [Act.put, sA, sZ, sS, i64_w, i32_w]
              rfl
             refine kP 6 56 #[true, true, true, true, true, true, true, true, false, false, false, false, false, false, false, true, false, false, false, false] ?_ (any_of HT_.out (by kernel_rfl))
             refine take_ (i := 8) (N := some 58) (v := ?_) (a' := ?_) #[true, true, true, true, true, true, true, true, true, false, false, false, false, false, false, true, false, false, false, false] rfl rfl (take_ofW HT_.out HW_.out (by kernel_rfl)) (fun _ _ _ h => h) (Or.inl ⟨by rfl, ?_⟩) hHeld ?_ ?_
             rotate_left
             ·rintro w' ⟨s0, s1, s2⟩
              go_simp
              with_reducible rfl
             rotate_left
             ·simp only [Act.put, sA, sZ, sS, i64_w, i32_w]
              rfl
             refine kP 9 59 #[true, true, true, true, true, true, true, true, true, true, false, false, false, false, false, true, false, false, false, false] ?_ (any_of HT_.out (by kernel_rfl))
             refine kP 10 60 #[true, true, true, true, true, true, true, true, true, true, true, false, false, false, false, true, false, false, false, false] ?_ (any_of HT_.out (by kernel_rfl))
             refine kP 11 61 #[true, true, true, true, true, true, true, true, true, true, true, true, false, false, false, true, false, false, false, false] ?_ (any_of HT_.out (by kernel_rfl))
             refine kP 12 62 #[true, true, true, true, true, true, true, true, true, true, true, true, true, false, false, true, false, false, false, false] ?_ (any_of HT_.out (by kernel_rfl))
             refine take_ (i := 16) (N := some 66) (v := ?_) (a' := ?_) #[true, true, true, true, true, true, true, true, true, true, true, true, true, false, false, true, true, false, false, false] rfl rfl (take_ofW HT_.out HW_.out (by kernel_rfl)) (fun _ _ _ h => h) (Or.inl ⟨by rfl, ?_⟩) hHeld ?_ ?_
             rotate_left
             ·rintro w' ⟨s0, s1, s2⟩
              go_simp
              with_reducible rfl
             rotate_left
             ·simp only [Act.put, sA, sZ, sS, i64_w, i32_w]
              rfl
             refine one_ (i := 13) (N := some 63) #[true, true, true, true, true, true, true, true, true, true, true, true, true, true, false, true, true, false, false, false] rfl rfl (one_of HT_.out (by kernel_rfl)) (by decide) (fun K hK => ?_)
             refine Kd.R_lit_step k64 _ 64 rfl (N := 63) rfl (xs := ([(⟨rd y249 (ji29), 1⟩ : S64), (⟨wrap64 (Int.tdiv (wrap64 ((((rd_T60 l0_10 x45_3).f1).size : Int) - 6)) 8), 1⟩ : S64)] : List (S64))) (inner := [.int .i64 (rd y249 (ji29)), .int .i64 1, .int .i64 (wrap64 (Int.tdiv (wrap64 ((((rd_T60 l0_10 x45_3).f1).size : Int) - 6)) 8)), .int .i64 1]) (ok := fun _ => True) (okp := fun _ => True) kG ?hp (fun _ hk => hk) trivial (Below.refl _ _) (Nat.le_refl _) (by simp) ?_; (case hp => exact (Reps.c2 (show Kd.M k64 _ _ _ (⟨rd y249 (ji29), 1⟩ : S64) [.int .i64 (rd y249 (ji29)), .int .i64 1] from (k64_mkM _ _ _ (⟨rd y249 (ji29), 1⟩ : S64) )) (Reps.c2 (show Kd.M k64 _ _ _ (⟨wrap64 (Int.tdiv (wrap64 ((((rd_T60 l0_10 x45_3).f1).size : Int) - 6)) 8), 1⟩ : S64) [.int .i64 (wrap64 (Int.tdiv (wrap64 ((((rd_T60 l0_10 x45_3).f1).size : Int) - 6)) 8)), .int .i64 1] from (k64_mkM _ _ _ (⟨wrap64 (Int.tdiv (wrap64 ((((rd_T60 l0_10 x45_3).f1).size : Int) - 6)) 8), 1⟩ : S64) )) (Reps.none _ _))))
             intro v256 w41 ho42 hb hg_ hnew_
             have HS2_ := hcell hb hHeld.2.2
             clear hg_ hnew_
             (first | rw [← Ny255.out] at ho42 | (simp only [Int.reduceToNat] at ho42; rw [← Ny255.out] at ho42))
             replace HO_5 := As (Kd.R_below (kR HO_5.out) hb)
             have HO257 := As (Kd.R_lower ho42 (below_size (kB2 HB.out GE236.out GE253.out)))
             replace BK236 := As (blk_below (kb BK236.out) hb)
             replace BK253 := As (blk_below (kb BK253.out) hb)
             replace HB := As (below_step (kB2 HB.out GE236.out GE253.out) hb)
             clear hb ho42
             obtain ⟨Ao43, co43, eo43⟩ := Kd.R_slice HO257.out
             (first | subst eo43 | (injection eo43 with f1_ f2_ f3_; have f4_ := f1_.symm; have f5_ := f3_.symm; clear f1_ f2_ f3_; subst f4_; subst f5_))
             refine hK.out _ _ ⟨(blk_cell BK253.out 0).trans rfl, (blk_cell BK253.out 1).trans rfl, HS2_⟩ (fun hHeld => ?_)
             clear hK K
             refine norm_ (a' := ?_) ?_ ?_
             rotate_left
             ·show Act.put _ (some 63) _ = _
              simp only [Act.put, sA, sZ, sS, i64_w, i32_w]
              rfl
             refine one_ (i := 14) (N := some 64) #[true, true, true, true, true, true, true, true, true, true, true, true, true, true, true, true, true, false, false, false] rfl rfl (one_of HT_.out (by kernel_rfl)) (by decide) (fun K hK => ?_)
             refine goes_ Try.func35 (by kernel_rfl) rfl #[.slice Ao43 y255.length co43] (by rfl) rfl rfl kA ?_
             with_reducible refine (ipv6_join.calls k3 _ _ y255 t258 _ ?side1 ?side2 A32.out).mono ?_
             (case side1 => repeat (first | exact (Kd.R_reads' HO257.out).2.2 | (with_reducible refine Kd.C_alloc ?_ _) | (with_reducible refine Kd.C_drewN ?_ _) | (with_reducible refine Kd.C_drew ?_)))
             (case side2 => exact (Kd.R_reads' HO257.out).2.1)
             rintro e w44 ⟨rfl, hb⟩
             have HS2_ := hcell hb hHeld.2.2
             refine ⟨_, rfl, ?_⟩
             replace HO_5 := As (Kd.R_below (kR HO_5.out) hb)
             replace HO257 := As (Kd.R_below (kR HO257.out) hb)
             replace BK236 := As (blk_below (kb BK236.out) hb)
             replace BK253 := As (blk_below (kb BK253.out) hb)
             replace HB := As (below_step (kB2 HB.out GE236.out GE253.out) hb)
             (try clear hb)
             (try clear hb2)
             (try clear hk)
             (try clear hi)
             refine hK.out _ _ ⟨(blk_cell BK253.out 0).trans rfl, (blk_cell BK253.out 1).trans rfl, HS2_⟩ (fun hHeld => ?_)
             clear hK K
             refine norm_ (a' := ?_) ?_ ?_
             rotate_left
             ·show Act.put _ (some 64) _ = _
              simp only [Act.put, sA, sZ, sS, i64_w, i32_w]
              rfl
             refine kP 17 67 #[true, true, true, true, true, true, true, true, true, true, true, true, true, true, true, true, true, true, false, false] ?_ (any_of HT_.out (by kernel_rfl))
             refine kP 18 68 #[true, true, true, true, true, true, true, true, true, true, true, true, true, true, true, true, true, true, true, false] ?_ (any_of HT_.out (by kernel_rfl))
             refine kP 19 8 #[true, true, true, true, true, true, true, true, true, true, true, true, true, true, true, true, true, true, true, true] ?_ (any_of HT_.out (by kernel_rfl))
             refine done_ (done_of HT_.out (by kernel_rfl)) ?_
             try go_wp2
             go_roundg k3
             case measure => have := HK1.out; have := HJ16.out; have := HK3.out; omega
             case rel => exact ⟨(x8_3 ++ (t258 ++ ((rd_T60 l0_10 x45_3).f1))), (ji29), kS, (by first | rfl | (simp; done) | (simp only [← hji29] <;> (first | rfl | simp)) | (simp [*]; done)), H', ⟨by have := HK1.out; have := HJ16.out; have := HK3.out; omega⟩, ⟨by (with_reducible repeat (first | apply Kd.R_alloc | apply Kd.R_drewN | apply Kd.R_drew)); exact HO_5.out⟩, ⟨kb BK236.out⟩, ⟨kB2 HB.out GE236.out GE253.out⟩⟩
            rw [if_neg c34] at H
            exact absurd H (by simp)
           rw [if_neg c33] at H
           exact absurd H (by simp)
          rw [if_neg c31] at H
          exact absurd H (by simp)
         rw [if_neg c30] at H
         exact absurd H (by simp)
        rw [if_neg c28] at H
        exact absurd H (by simp)
       rw [if_neg c27] at H
       exact absurd H (by simp)
      rw [if_neg c26] at H
      have c26b0 : decide (x45_3 < (l0_10.length : Int)) = false := decide_eq_false c26
      clear c26
      have HC45 := As H
      clear H
      have hcz46_0 := cells_16 BK236.out
      have hfz46_0 := fun j_ => blk_frozen BK236.out j_
      go_upto_if 71 with (fail)
      go_cut [8] (fun v8 wc => ∃ (kq : Nat) (x8_44 : ByteArray), v8 = .string x8_44 ∧ Aside0 (ipv6_Encode.j4 kq y249 x8_44 d0 d1 d2 d3 d4 d5 d6 d7 d8 d9 l0_10 d11 d12 d13 d14 d15 = some (r1, r2)) ∧ Aside0 (kq ≤ k3) ∧ Aside0 (Kd.R (Kd.int .i64) 3 wc w.heap.size (fun _ => True) v250 y249) ∧ Aside0 (wc.heap[gb236]? = some (.cells #[.int .i64 d0, .int .i64 d1, .int .i64 d2, .int .i64 d3, .bool d4, .int .u64 d5, .int .u64 d6, .bool d7, .int .u64 d8, .int .u64 d9, (.slice A0_10 l0_10.length c0_10), .bool d11, .int .i64 d12, .int .i64 d13, .bool d14, .string d15] 28 (0, 0))) ∧ Aside0 (Below w.heap.size w wc))
      case first =>
       have H := HC45.out
       clear HC45
       by_cases c47 : d11 = true
       ·subst c47
        have H1 : (if d14 = true then (ipv6_Encode.j3 k3 y249 x8_3 (wrap64 (d13 + 1)) d0 d1 d2 d3 d4 d5 d6 d7 d8 d9 l0_10 true d12 d13 d14 d15) else (ipv6_Encode.j3 k3 y249 x8_3 d13 d0 d1 d2 d3 d4 d5 d6 d7 d8 d9 l0_10 true d12 d13 d14 d15)) = some (r1, r2) := by rw [if_pos rfl] at H; exact H
        clear H
        have H := H1
        clear H1
        have HC48 := As H
        clear H
        have hcz49_0 := cells_16 BK236.out
        have hfz49_0 := fun j_ => blk_frozen BK236.out j_
        go_upto_if 75 with (fail)
        go_cut [11] (fun v11 wc => ∃ (kq : Nat) (x11_47 : Int), v11 = .int .i64 x11_47 ∧ Aside0 (ipv6_Encode.j3 kq y249 x8_3 x11_47 d0 d1 d2 d3 d4 d5 d6 d7 d8 d9 l0_10 true d12 d13 d14 d15 = some (r1, r2)) ∧ Aside0 (kq ≤ k3) ∧ Aside0 (Kd.R (Kd.int .i64) 3 wc w.heap.size (fun _ => True) v250 y249) ∧ Aside0 (wc.heap[gb236]? = some (.cells #[.int .i64 d0, .int .i64 d1, .int .i64 d2, .int .i64 d3, .bool d4, .int .u64 d5, .int .u64 d6, .bool d7, .int .u64 d8, .int .u64 d9, (.slice A0_10 l0_10.length c0_10), .bool true, .int .i64 d12, .int .i64 d13, .bool d14, .string d15] 28 (0, 0))) ∧ Aside0 (Below w.heap.size w wc))
        case first =>
         have H := HC48.out
         clear HC48
         by_cases c50 : d14 = true
         ·subst c50
          have H1 : (ipv6_Encode.j3 k3 y249 x8_3 (wrap64 (d13 + 1)) d0 d1 d2 d3 d4 d5 d6 d7 d8 d9 l0_10 true d12 d13 true d15) = some (r1, r2) := by rw [if_pos rfl] at H; exact H
          clear H
          have H := H1
          clear H1
          have H' := As H
          clear H
          go_wp2
          go_meet
          case rel => exact ⟨_, (wrap64 (d13 + 1)), kS, H', ⟨by have := HK1.out; have := HJ16.out; have := HK3.out; first | omega | exact Nat.le_refl _⟩, ⟨by (with_reducible repeat (first | apply Kd.R_alloc | apply Kd.R_drewN | apply Kd.R_drew)); exact HO_5.out⟩, ⟨kb BK236.out⟩, ⟨kB1 HB.out GE236.out⟩⟩
         replace c50 := Bool.eq_false_iff.mpr c50
         subst c50
         have H1 : (ipv6_Encode.j3 k3 y249 x8_3 d13 d0 d1 d2 d3 d4 d5 d6 d7 d8 d9 l0_10 true d12 d13 false d15) = some (r1, r2) := by rw [if_neg (show ¬ (false = true) by decide)] at H; exact H
         clear H
         have H := H1
         clear H1
         have H' := As H
         clear H
         go_wp2
         go_meet
         case rel => exact ⟨_, (d13), kS, H', ⟨by have := HK1.out; have := HJ16.out; have := HK3.out; first | omega | exact Nat.le_refl _⟩, ⟨by (with_reducible repeat (first | apply Kd.R_alloc | apply Kd.R_drewN | apply Kd.R_drew)); exact HO_5.out⟩, ⟨kb BK236.out⟩, ⟨kB1 HB.out GE236.out⟩⟩
        clear HC48
        try clear c26
        try clear c26b0
        try clear c47
        try clear hcz46_0
        try clear hcz49_0
        try clear hfz46_0
        try clear hfz49_0
        obtain ⟨kq, x11_47, rfl, HA, HJ47, HO_5, BK236, HB⟩ := hcut
        cases kq with
        | zero => exact absurd HA.out (by simp [ipv6_Encode.j3])
        | succ kj47 =>
         have H := HA.out
         clear HA
         simp only [ipv6_Encode.j3] at H
         obtain ⟨y259, hy259⟩ : ∃ y_ : List (S64), y_ = (([(⟨d3, 1⟩ : S64), (⟨0, 1⟩ : S64), (⟨x11_47, 2⟩ : S64), (⟨d12, 4⟩ : S64)] : List (S64))) := ⟨_, rfl⟩
         replace H : ((ipv6_join.f kj47 y259).bind fun t262 => (if x8_3.size + t262.size ≤ 9223372036854775807 then (ipv6_Encode.j4 kj47 y249 (x8_3 ++ t262) d0 d1 d2 d3 d4 d5 d6 d7 d8 d9 l0_10 true d12 d13 d14 d15) else (none))) = some (r1, r2) := by first | (rw [hy259]; with_reducible exact H) | (have H2_ := (Option.bind_some _ _).symm.trans H; rw [hy259]; with_reducible exact H2_) | (have H2_ := (Option.bind_some _ _).symm.trans H; with_reducible exact H2_) | with_reducible exact H | (rw [hy259]; exact H) | exact H
         have Ny259 := As hy259
         clear hy259
         replace H := Option.bind_eq_some_iff.mp H
         obtain ⟨t262, A510, H⟩ := H
         replace H : (if x8_3.size + t262.size ≤ 9223372036854775807 then (ipv6_Encode.j4 kj47 y249 (x8_3 ++ t262) d0 d1 d2 d3 d4 d5 d6 d7 d8 d9 l0_10 true d12 d13 d14 d15) else (none)) = some (r1, r2) := H
         have A51 := As A510
         clear A510
         by_cases c52 : x8_3.size + t262.size ≤ 9223372036854775807
         ·rw [if_pos c52] at H
          have c52b0 := eq_true c52
          have c52b1 : decide (x8_3.size + t262.size ≤ 9223372036854775807) = true := decide_eq_true c52
          try have c52b2 : (9223372036854775807 < x8_3.size + t262.size) = False := eq_false (Nat.not_lt.2 c52)
          have H' := As H
          clear H
          have hcz53_0 := cells_16 BK236.out
          have hfz53_0 := fun j_ => blk_frozen BK236.out j_
          go_wp2_with (first | ((with_reducible refine gate_dst (N := 88) rfl ?_); refine Kd.R_lit k64 _ 64 rfl (N := 88) rfl (xs := ([(⟨d3, 1⟩ : S64), (⟨0, 1⟩ : S64), (⟨x11_47, 2⟩ : S64), (⟨d12, 4⟩ : S64)] : List (S64))) (inner := [.int .i64 d3, .int .i64 1, .int .i64 0, .int .i64 1, .int .i64 x11_47, .int .i64 2, .int .i64 d12, .int .i64 4]) (ok := fun _ => True) (okp := fun _ => True) kG ?hp (fun _ hk => hk) trivial (Below.refl _ _) (Nat.le_refl _) (by simp) ?_; (case hp => exact (Reps.c2 (show Kd.M k64 _ _ _ (⟨d3, 1⟩ : S64) [.int .i64 d3, .int .i64 1] from (k64_mkM _ _ _ (⟨d3, 1⟩ : S64) )) (Reps.c2 (show Kd.M k64 _ _ _ (⟨0, 1⟩ : S64) [.int .i64 0, .int .i64 1] from (k64_mkM _ _ _ (⟨0, 1⟩ : S64) )) (Reps.c2 (show Kd.M k64 _ _ _ (⟨x11_47, 2⟩ : S64) [.int .i64 x11_47, .int .i64 2] from (k64_mkM _ _ _ (⟨x11_47, 2⟩ : S64) )) (Reps.c2 (show Kd.M k64 _ _ _ (⟨d12, 4⟩ : S64) [.int .i64 d12, .int .i64 4] from (k64_mkM _ _ _ (⟨d12, 4⟩ : S64) )) (Reps.none _ _)))))); intro v260 w54 ho55 hb hg_ hnew_; clear hg_ hnew_; (first | rw [← Ny259.out] at ho55 | (simp only [Int.reduceToNat] at ho55; rw [← Ny259.out] at ho55)); replace HO_5 := As (Kd.R_below (kR HO_5.out) hb); have HO261 := As (Kd.R_lower ho55 (below_size (kB1 HB.out GE236.out))); replace BK236 := As (blk_below (kb BK236.out) hb); replace HB := As (below_step (kB1 HB.out GE236.out) hb); clear hb ho55; obtain ⟨Ao56, co56, eo56⟩ := Kd.R_slice HO261.out; subst eo56) | ((with_reducible refine gate_callee (f := 35) rfl ?_); refine goesL_ (some 89) rfl rfl Try.func35 (by kernel_rfl) rfl #[.slice Ao56 y259.length co56] rfl kA ?_; (with_reducible refine (ipv6_join.calls kj47 _ _ y259 t262 _ ?side1 ?side2 A51.out).mono ?_); (case side1 => repeat (first | exact (Kd.R_reads' HO261.out).2.2 | (with_reducible refine Kd.C_alloc ?_ _) | (with_reducible refine Kd.C_drewN ?_ _) | (with_reducible refine Kd.C_drew ?_))); (case side2 => exact (Kd.R_reads' HO261.out).2.1); rintro e w57 ⟨rfl, hb⟩; refine ⟨_, rfl, ?_⟩; replace HO_5 := As (Kd.R_below (kR HO_5.out) hb); replace HO261 := As (Kd.R_below (kR HO261.out) hb); replace BK236 := As (blk_below (kb BK236.out) hb); replace HB := As (below_step (kB1 HB.out GE236.out) hb); (try clear hb)))
          go_meet
          case rel => exact ⟨_, (x8_3 ++ t262), kS, H', ⟨by have := HK1.out; have := HJ16.out; have := HK3.out; have := HJ47.out; first | omega | exact Nat.le_refl _⟩, ⟨by (with_reducible repeat (first | apply Kd.R_alloc | apply Kd.R_drewN | apply Kd.R_drew)); exact HO_5.out⟩, ⟨kb BK236.out⟩, ⟨kB1 HB.out GE236.out⟩⟩
         rw [if_neg c52] at H
         exact absurd H (by simp)
       replace c47 := Bool.eq_false_iff.mpr c47
       subst c47
       have H1 : (ipv6_Encode.j4 k3 y249 x8_3 d0 d1 d2 d3 d4 d5 d6 d7 d8 d9 l0_10 false d12 d13 d14 d15) = some (r1, r2) := by rw [if_neg (show ¬ (false = true) by decide)] at H; exact H
       clear H
       have H := H1
       clear H1
       have H' := As H
       clear H
       go_wp2
       go_meet
       case rel => exact ⟨_, (x8_3), kS, H', ⟨by have := HK1.out; have := HJ16.out; have := HK3.out; first | omega | exact Nat.le_refl _⟩, ⟨by (with_reducible repeat (first | apply Kd.R_alloc | apply Kd.R_drewN | apply Kd.R_drew)); exact HO_5.out⟩, ⟨kb BK236.out⟩, ⟨kB1 HB.out GE236.out⟩⟩
      clear HC45
      try clear c26
      try clear c26b0
      try clear hcz46_0
      try clear hfz46_0
      obtain ⟨kq, x8_44, rfl, HA, HJ44, HO_5, BK236, HB⟩ := hcut
      cases kq with
      | zero => exact absurd HA.out (by simp [ipv6_Encode.j4])
      | succ kj44 =>
       have H := HA.out
       clear HA
       simp only [ipv6_Encode.j4] at H
       by_cases c58 : x8_44.size + d15.size ≤ 9223372036854775807
       ·rw [if_pos c58] at H
        have c58b0 := eq_true c58
        have c58b1 : decide (x8_44.size + d15.size ≤ 9223372036854775807) = true := decide_eq_true c58
        try have c58b2 : (9223372036854775807 < x8_44.size + d15.size) = False := eq_false (Nat.not_lt.2 c58)
        by_cases c59 : ((x8_44 ++ d15).size : Int) > 65535
        ·rw [if_pos c59] at H
         have c59b0 : decide (65535 < ((x8_44 ++ d15).size : Int)) = true := decide_eq_true c59
         have c59b1 : decide (65535 < (x8_44 ++ d15).size) = true := decide_eq_true (by omega)
         (try (have c59b2 : (65535 < ((x8_44.size : Int) + (d15.size : Int))) = True := by have h_ := c59; simp only [ByteArray.size_append, Int.natCast_add, Int.toNat_natCast] at h_; first | exact eq_true h_ | exact eq_true (by omega)))
         (try (have c59b3 : decide (65535 < ((x8_44.size : Int) + (d15.size : Int))) = true := by have h_ := c59; first | (simp only [ByteArray.size_append, Int.toNat_natCast] at h_; first | exact beq_iff_eq.mpr h_ | exact beq_eq_false_iff_ne.mpr h_ | exact bne_iff_ne.mpr h_ | exact bne_eq_false_iff_eq.mpr h_ | (rw [beq_iff_eq.mpr h_]; rfl) | (rw [beq_eq_false_iff_ne.mpr h_]; rfl)) | (simp only [ByteArray.size_append, Int.natCast_add, Int.toNat_natCast] at h_ ⊢; first | exact h_ | simpa using h_ | simp [h_] | omega) | (simp only [ByteArray.size_append] at h_; simp at h_ ⊢; omega) | (simp only [ByteArray.size_append, Int.natCast_add, Int.toNat_natCast] at h_; simpa using h_)))
         (try (have c59b4 : (65535 < (x8_44.size + d15.size)) = True := by have h_ := c59; simp only [ByteArray.size_append, Int.natCast_add, Int.toNat_natCast] at h_; first | exact eq_true h_ | exact eq_true (by omega)))
         (try (have c59b5 : decide (65535 < (x8_44.size + d15.size)) = true := by have h_ := c59; first | (simp only [ByteArray.size_append, Int.toNat_natCast] at h_; first | exact beq_iff_eq.mpr h_ | exact beq_eq_false_iff_ne.mpr h_ | exact bne_iff_ne.mpr h_ | exact bne_eq_false_iff_eq.mpr h_ | (rw [beq_iff_eq.mpr h_]; rfl) | (rw [beq_eq_false_iff_ne.mpr h_]; rfl)) | (simp only [ByteArray.size_append, Int.natCast_add, Int.toNat_natCast] at h_ ⊢; first | exact h_ | simpa using h_ | simp [h_] | omega) | (simp only [ByteArray.size_append] at h_; simp at h_ ⊢; omega) | (simp only [ByteArray.size_append, Int.natCast_add, Int.toNat_natCast] at h_; simpa using h_)))
         clear c59
         simp only [Option.some.injEq, Prod.mk.injEq] at H
         obtain ⟨rfl, rfl⟩ := H
         have hcz60_0 := cells_16 BK236.out
         have hfz60_0 := fun j_ => blk_frozen BK236.out j_
         go_wp2
         go_ret2
         exact ⟨kE, by exact kB1 HB.out GE236.out⟩
        rw [if_neg c59] at H
        have c59b0 : decide (65535 < ((x8_44 ++ d15).size : Int)) = false := decide_eq_false c59
        have c59b1 : decide (65535 < (x8_44 ++ d15).size) = false := decide_eq_false (by omega)
        (try (have c59b2 : (65535 < ((x8_44.size : Int) + (d15.size : Int))) = False := by have h_ := c59; simp only [ByteArray.size_append, Int.natCast_add, Int.toNat_natCast] at h_; first | exact eq_false h_ | exact eq_false (by omega)))
        (try (have c59b3 : decide (65535 < ((x8_44.size : Int) + (d15.size : Int))) = false := by have h_ := c59; first | (simp only [ByteArray.size_append, Int.toNat_natCast] at h_; first | exact beq_iff_eq.mpr h_ | exact beq_eq_false_iff_ne.mpr h_ | exact bne_iff_ne.mpr h_ | exact bne_eq_false_iff_eq.mpr h_ | (rw [beq_iff_eq.mpr h_]; rfl) | (rw [beq_eq_false_iff_ne.mpr h_]; rfl)) | (simp only [ByteArray.size_append, Int.natCast_add, Int.toNat_natCast] at h_ ⊢; first | exact h_ | simpa using h_ | simp [h_] | omega) | (simp only [ByteArray.size_append] at h_; simp at h_ ⊢; omega) | (simp only [ByteArray.size_append, Int.natCast_add, Int.toNat_natCast] at h_; simpa using h_)))
        (try (have c59b4 : (65535 < (x8_44.size + d15.size)) = False := by have h_ := c59; simp only [ByteArray.size_append, Int.natCast_add, Int.toNat_natCast] at h_; first | exact eq_false h_ | exact eq_false (by omega)))
        (try (have c59b5 : decide (65535 < (x8_44.size + d15.size)) = false := by have h_ := c59; first | (simp only [ByteArray.size_append, Int.toNat_natCast] at h_; first | exact beq_iff_eq.mpr h_ | exact beq_eq_false_iff_ne.mpr h_ | exact bne_iff_ne.mpr h_ | exact bne_eq_false_iff_eq.mpr h_ | (rw [beq_iff_eq.mpr h_]; rfl) | (rw [beq_eq_false_iff_ne.mpr h_]; rfl)) | (simp only [ByteArray.size_append, Int.natCast_add, Int.toNat_natCast] at h_ ⊢; first | exact h_ | simpa using h_ | simp [h_] | omega) | (simp only [ByteArray.size_append] at h_; simp at h_ ⊢; omega) | (simp only [ByteArray.size_append, Int.natCast_add, Int.toNat_natCast] at h_; simpa using h_)))
        clear c59
        by_cases c61 : 0 < (y249.length : Int)
        ·rw [if_pos c61] at H
         have c61b0 : decide (0 < (y249.length : Int)) = true := decide_eq_true c61
         have c61b1 : decide (0 < y249.length) = true := decide_eq_true (by omega)
         clear c61
         obtain ⟨y264, hy264⟩ : ∃ y_ : List (S64), y_ = (([(⟨Go.bits .or .i64 (Go.bits .or .i64 1610612736 (wrap64 (d0 * 1048576))) d1, 4⟩ : S64), (⟨((x8_44 ++ d15).size : Int), 2⟩ : S64), (⟨rd y249 0, 1⟩ : S64), (⟨d2, 1⟩ : S64)] : List (S64))) := ⟨_, rfl⟩
         replace H : ((ipv6_join.f kj44 y264).bind fun t267 => ((address_Bytes.f kj44 d4 d5 d6).bind fun t268 => (if t267.size + t268.size ≤ 9223372036854775807 then ((address_Bytes.f kj44 d7 d8 d9).bind fun t269 => (if (t267 ++ t268).size + t269.size ≤ 9223372036854775807 then (if ((t267 ++ t268) ++ t269).size + (x8_44 ++ d15).size ≤ 9223372036854775807 then (some (((t267 ++ t268) ++ t269) ++ (x8_44 ++ d15), 0)) else (none)) else (none))) else (none)))) = some (r1, r2) := by first | (rw [hy264]; with_reducible exact H) | (have H2_ := (Option.bind_some _ _).symm.trans H; rw [hy264]; with_reducible exact H2_) | (have H2_ := (Option.bind_some _ _).symm.trans H; with_reducible exact H2_) | with_reducible exact H | (rw [hy264]; exact H) | exact H
         have Ny264 := As hy264
         clear hy264
         replace H := Option.bind_eq_some_iff.mp H
         obtain ⟨t267, A620, H⟩ := H
         replace H : ((address_Bytes.f kj44 d4 d5 d6).bind fun t268 => (if t267.size + t268.size ≤ 9223372036854775807 then ((address_Bytes.f kj44 d7 d8 d9).bind fun t269 => (if (t267 ++ t268).size + t269.size ≤ 9223372036854775807 then (if ((t267 ++ t268) ++ t269).size + (x8_44 ++ d15).size ≤ 9223372036854775807 then (some (((t267 ++ t268) ++ t269) ++ (x8_44 ++ d15), 0)) else (none)) else (none))) else (none))) = some (r1, r2) := H
         have A62 := As A620
         clear A620
         replace H := Option.bind_eq_some_iff.mp H
         obtain ⟨t268, A630, H⟩ := H
         replace H : (if t267.size + t268.size ≤ 9223372036854775807 then ((address_Bytes.f kj44 d7 d8 d9).bind fun t269 => (if (t267 ++ t268).size + t269.size ≤ 9223372036854775807 then (if ((t267 ++ t268) ++ t269).size + (x8_44 ++ d15).size ≤ 9223372036854775807 then (some (((t267 ++ t268) ++ t269) ++ (x8_44 ++ d15), 0)) else (none)) else (none))) else (none)) = some (r1, r2) := H
         have A63 := As A630
         clear A630
         by_cases c64 : t267.size + t268.size ≤ 9223372036854775807
         ·rw [if_pos c64] at H
          have c64b0 := eq_true c64
          have c64b1 : decide (t267.size + t268.size ≤ 9223372036854775807) = true := decide_eq_true c64
          try have c64b2 : (9223372036854775807 < t267.size + t268.size) = False := eq_false (Nat.not_lt.2 c64)
          replace H := Option.bind_eq_some_iff.mp H
          obtain ⟨t269, A650, H⟩ := H
          replace H : (if (t267 ++ t268).size + t269.size ≤ 9223372036854775807 then (if ((t267 ++ t268) ++ t269).size + (x8_44 ++ d15).size ≤ 9223372036854775807 then (some (((t267 ++ t268) ++ t269) ++ (x8_44 ++ d15), 0)) else (none)) else (none)) = some (r1, r2) := H
          have A65 := As A650
          clear A650
          by_cases c66 : (t267 ++ t268).size + t269.size ≤ 9223372036854775807
          ·rw [if_pos c66] at H
           have c66b0 := eq_true c66
           have c66b1 : decide ((t267 ++ t268).size + t269.size ≤ 9223372036854775807) = true := decide_eq_true c66
           (try (have c66s0 : (9223372036854775807 < (t267.size + t268.size) + t269.size) = False := by have h_ := c66; simp only [ByteArray.size_append, ByteArray.size_extract] at h_; exact eq_false (by first | omega | (omega))))
           (try (have c66s1 : (9223372036854775807 < t267.size + t268.size + t269.size) = False := by have h_ := c66; simp only [ByteArray.size_append, ByteArray.size_extract] at h_; exact eq_false (by first | omega | (omega))))
           (try (have c66s2 : ((t267.size + t268.size) + t269.size ≤ 9223372036854775807) = True := by have h_ := c66; simp only [ByteArray.size_append, Int.natCast_add, Int.toNat_natCast] at h_; first | exact eq_true h_ | exact eq_true (by omega)))
           (try (have c66s3 : decide ((t267.size + t268.size) + t269.size ≤ 9223372036854775807) = true := by have h_ := c66; first | (simp only [ByteArray.size_append, Int.toNat_natCast] at h_; first | exact beq_iff_eq.mpr h_ | exact beq_eq_false_iff_ne.mpr h_ | exact bne_iff_ne.mpr h_ | exact bne_eq_false_iff_eq.mpr h_ | (rw [beq_iff_eq.mpr h_]; rfl) | (rw [beq_eq_false_iff_ne.mpr h_]; rfl)) | (simp only [ByteArray.size_append, Int.natCast_add, Int.toNat_natCast] at h_ ⊢; first | exact h_ | simpa using h_ | simp [h_] | omega) | (simp only [ByteArray.size_append] at h_; simp at h_ ⊢; omega) | (simp only [ByteArray.size_append, Int.natCast_add, Int.toNat_natCast] at h_; simpa using h_)))
           try have c66b2 : (9223372036854775807 < (t267 ++ t268).size + t269.size) = False := eq_false (Nat.not_lt.2 c66)
           by_cases c67 : ((t267 ++ t268) ++ t269).size + (x8_44 ++ d15).size ≤ 9223372036854775807
           ·rw [if_pos c67] at H
            have c67b0 := eq_true c67
            have c67b1 : decide (((t267 ++ t268) ++ t269).size + (x8_44 ++ d15).size ≤ 9223372036854775807) = true := decide_eq_true c67
            (try (have c67s0 : (9223372036854775807 < (t267.size + t268.size + t269.size) + (x8_44.size + d15.size)) = False := by have h_ := c67; simp only [ByteArray.size_append, ByteArray.size_extract] at h_; exact eq_false (by first | omega | (omega))))
            (try (have c67s1 : (9223372036854775807 < t267.size + t268.size + t269.size + x8_44.size + d15.size) = False := by have h_ := c67; simp only [ByteArray.size_append, ByteArray.size_extract] at h_; exact eq_false (by first | omega | (omega))))
            (try (have c67s2 : ((t267.size + t268.size + t269.size) + (x8_44.size + d15.size) ≤ 9223372036854775807) = True := by have h_ := c67; simp only [ByteArray.size_append, Int.natCast_add, Int.toNat_natCast] at h_; first | exact eq_true h_ | exact eq_true (by omega)))
            (try (have c67s3 : decide ((t267.size + t268.size + t269.size) + (x8_44.size + d15.size) ≤ 9223372036854775807) = true := by have h_ := c67; first | (simp only [ByteArray.size_append, Int.toNat_natCast] at h_; first | exact beq_iff_eq.mpr h_ | exact beq_eq_false_iff_ne.mpr h_ | exact bne_iff_ne.mpr h_ | exact bne_eq_false_iff_eq.mpr h_ | (rw [beq_iff_eq.mpr h_]; rfl) | (rw [beq_eq_false_iff_ne.mpr h_]; rfl)) | (simp only [ByteArray.size_append, Int.natCast_add, Int.toNat_natCast] at h_ ⊢; first | exact h_ | simpa using h_ | simp [h_] | omega) | (simp only [ByteArray.size_append] at h_; simp at h_ ⊢; omega) | (simp only [ByteArray.size_append, Int.natCast_add, Int.toNat_natCast] at h_; simpa using h_)))
            try have c67b2 : (9223372036854775807 < ((t267 ++ t268) ++ t269).size + (x8_44 ++ d15).size) = False := eq_false (Nat.not_lt.2 c67)
            simp only [Option.some.injEq, Prod.mk.injEq] at H
            obtain ⟨rfl, rfl⟩ := H
            have hcz68_0 := cells_16 BK236.out
            have hfz68_0 := fun j_ => blk_frozen BK236.out j_
            try go_wp2
            replace HO_5 := As (Kd.R_drew HO_5.out)
            replace BK236 := As (blk_drew BK236.out)
            replace HB := As (below_drew1 HB.out)
            obtain ⟨Ao70, co70, eo70⟩ := Kd.R_slice HO_5.out
            (first | subst eo70 | (injection eo70 with f1_ f2_ f3_; have f4_ := f1_.symm; have f5_ := f3_.symm; clear f1_ f2_ f3_; subst f4_; subst f5_))
            have p263 : 0 ≤ (0 : Int) := (by omega)
            have q263 : 0 < (y249.length : Int) := of_decide_eq_true (by first | (with_reducible assumption) | assumption)
            obtain ⟨ad263, e263, hx263_0⟩ := Kd.at_int (Kd.R_reads' HO_5.out).2.2 0 p263 q263
            cases e263
            have qi263 : (0 < y249.length) = True := eq_true (by omega)
            (try rw [show ((0 : Int)).toNat = 0 from rfl] at hx263_0)
            (try rw [Addr.add_zero'] at hx263_0)
            replace p263 := eq_true p263
            replace q263 := eq_true q263
            refine start_ (n := 21) (S := fun w' => w'.cell? ⟨gb236, 0, none⟩ = some (.int .i64 d0) ∧ w'.cell? ⟨gb236, 1, none⟩ = some (.int .i64 d1) ∧ w'.cell? ⟨gb236, 2, none⟩ = some (.int .i64 d2) ∧ w'.cell? ⟨gb236, 3, none⟩ = some (.int .i64 d3) ∧ w'.cell? ⟨gb236, 4, none⟩ = some (.bool d4) ∧ w'.cell? ⟨gb236, 5, none⟩ = some (.int .u64 d5) ∧ w'.cell? ⟨gb236, 6, none⟩ = some (.int .u64 d6) ∧ w'.cell? ⟨gb236, 7, none⟩ = some (.bool d7) ∧ w'.cell? ⟨gb236, 8, none⟩ = some (.int .u64 d8) ∧ w'.cell? ⟨gb236, 9, none⟩ = some (.int .u64 d9) ∧ w'.cell? ⟨gb236, 10, none⟩ = some (.slice A0_10 l0_10.length c0_10) ∧ w'.cell? ⟨gb236, 11, none⟩ = some (.bool d11) ∧ w'.cell? ⟨gb236, 12, none⟩ = some (.int .i64 d12) ∧ w'.cell? ⟨gb236, 13, none⟩ = some (.int .i64 d13) ∧ w'.cell? ⟨gb236, 14, none⟩ = some (.bool d14) ∧ w'.cell? ⟨gb236, 15, none⟩ = some (.string d15) ∧ w'.cell? ad263 = some (.int .i64 (rd y249 0))) (ds := []) #[false, false, false, false, false, false, false, false, false, false, false, false, false, false, false, false, false, false, false, false, false] (by kernel_rfl) rfl rfl ⟨(blk_cell BK236.out 0).trans rfl, (blk_cell BK236.out 1).trans rfl, (blk_cell BK236.out 2).trans rfl, (blk_cell BK236.out 3).trans rfl, (blk_cell BK236.out 4).trans rfl, (blk_cell BK236.out 5).trans rfl, (blk_cell BK236.out 6).trans rfl, (blk_cell BK236.out 7).trans rfl, (blk_cell BK236.out 8).trans rfl, (blk_cell BK236.out 9).trans rfl, (blk_cell BK236.out 10).trans rfl, (blk_cell BK236.out 11).trans rfl, (blk_cell BK236.out 12).trans rfl, (blk_cell BK236.out 13).trans rfl, (blk_cell BK236.out 14).trans rfl, (blk_cell BK236.out 15).trans rfl, hx263_0⟩ (fun hHeld => ?_); refine with_tabW ipv6_Encode.tab27 ipv6_Encode.bits27 (fun HT_ HW_ => ?_)
            generalize wc.drew = w69 at HO_5 BK236 HB hx263_0 hHeld ⊢
            refine kP 0 98 #[true, false, false, false, false, false, false, false, false, false, false, false, false, false, false, false, false, false, false, false, false] ?_ (any_of HT_.out (by kernel_rfl))
            refine kP 4 102 #[true, false, false, false, true, false, false, false, false, false, false, false, false, false, false, false, false, false, false, false, false] ?_ (any_of HT_.out (by kernel_rfl))
            refine kP 8 106 #[true, false, false, false, true, false, false, false, true, false, false, false, false, false, false, false, false, false, false, false, false] ?_ (any_of HT_.out (by kernel_rfl))
            refine kP 9 107 #[true, false, false, false, true, false, false, false, true, true, false, false, false, false, false, false, false, false, false, false, false] ?_ (any_of HT_.out (by kernel_rfl))
            refine kP 10 108 #[true, false, false, false, true, false, false, false, true, true, true, false, false, false, false, false, false, false, false, false, false] ?_ (any_of HT_.out (by kernel_rfl))
            refine kP 11 109 #[true, false, false, false, true, false, false, false, true, true, true, true, false, false, false, false, false, false, false, false, false] ?_ (any_of HT_.out (by kernel_rfl))
            refine kP 12 110 #[true, false, false, false, true, false, false, false, true, true, true, true, true, false, false, false, false, false, false, false, false] ?_ (any_of HT_.out (by kernel_rfl))
            refine kP 15 113 #[true, false, false, false, true, false, false, false, true, true, true, true, true, false, false, true, false, false, false, false, false] ?_ (any_of HT_.out (by kernel_rfl))
            refine take_ (i := 1) (N := some 99) (v := ?_) (a' := ?_) #[true, true, false, false, true, false, false, false, true, true, true, true, true, false, false, true, false, false, false, false, false] rfl rfl (take_ofW HT_.out HW_.out (by kernel_rfl)) (fun _ _ _ h => h) (Or.inl ⟨by rfl, ?_⟩) hHeld ?_ ?_
            rotate_left
            ·rintro w' ⟨s0, s1, s2, s3, s4, s5, s6, s7, s8, s9, s10, s11, s12, s13, s14, s15, s16⟩
             go_simp
             with_reducible rfl
            rotate_left
            ·simp only [Act.put, sA, sZ, sS, i64_w, i32_w]
             rfl
            refine kP 2 100 #[true, true, true, false, true, false, false, false, true, true, true, true, true, false, false, true, false, false, false, false, false] ?_ (any_of HT_.out (by kernel_rfl))
            refine kP 3 101 #[true, true, true, true, true, false, false, false, true, true, true, true, true, false, false, true, false, false, false, false, false] ?_ (any_of HT_.out (by kernel_rfl))
            refine take_ (i := 5) (N := some 103) (v := ?_) (a' := ?_) #[true, true, true, true, true, true, false, false, true, true, true, true, true, false, false, true, false, false, false, false, false] rfl rfl (take_ofW HT_.out HW_.out (by kernel_rfl)) (fun _ _ _ h => h) (Or.inl ⟨by rfl, ?_⟩) hHeld ?_ ?_
            rotate_left
            ·rintro w' ⟨s0, s1, s2, s3, s4, s5, s6, s7, s8, s9, s10, s11, s12, s13, s14, s15, s16⟩
             go_simp
             with_reducible rfl
            rotate_left
            ·simp only [Act.put, sA, sZ, sS, i64_w, i32_w]
             rfl
            refine kP 6 104 #[true, true, true, true, true, true, true, false, true, true, true, true, true, false, false, true, false, false, false, false, false] ?_ (any_of HT_.out (by kernel_rfl))
            refine kP 7 105 #[true, true, true, true, true, true, true, true, true, true, true, true, true, false, false, true, false, false, false, false, false] ?_ (any_of HT_.out (by kernel_rfl))
            refine take_ (i := 13) (N := some 111) (v := ?_) (a' := ?_) #[true, true, true, true, true, true, true, true, true, true, true, true, true, true, false, true, false, false, false, false, false] rfl rfl (take_ofW HT_.out HW_.out (by kernel_rfl)) (fun _ _ _ h => h) (Or.inl ⟨by rfl, ?_⟩) hHeld ?_ ?_
            rotate_left
            ·rintro w' ⟨s0, s1, s2, s3, s4, s5, s6, s7, s8, s9, s10, s11, s12, s13, s14, s15, s16⟩
             go_simp
             with_reducible rfl
            rotate_left
            ·simp only [Act.put, sA, sZ, sS, i64_w, i32_w]
             rfl
            refine kP 14 112 #[true, true, true, true, true, true, true, true, true, true, true, true, true, true, true, true, false, false, false, false, false] ?_ (any_of HT_.out (by kernel_rfl))
            refine take_ (i := 16) (N := some 114) (v := ?_) (a' := ?_) #[true, true, true, true, true, true, true, true, true, true, true, true, true, true, true, true, true, false, false, false, false] rfl rfl (take_ofW HT_.out HW_.out (by kernel_rfl)) (fun _ _ _ h => h) (Or.inl ⟨by rfl, ?_⟩) hHeld ?_ ?_
            rotate_left
            ·rintro w' ⟨s0, s1, s2, s3, s4, s5, s6, s7, s8, s9, s10, s11, s12, s13, s14, s15, s16⟩
             go_simp
             with_reducible rfl
            rotate_left
            ·simp only [Act.put, sA, sZ, sS, i64_w, i32_w]
             rfl
            refine kP 17 115 #[true, true, true, true, true, true, true, true, true, true, true, true, true, true, true, true, true, true, false, false, false] ?_ (any_of HT_.out (by kernel_rfl))
            refine one_ (i := 18) (N := some 116) #[true, true, true, true, true, true, true, true, true, true, true, true, true, true, true, true, true, true, true, false, false] rfl rfl (one_of HT_.out (by kernel_rfl)) (by decide) (fun K hK => ?_)
            refine Kd.R_lit_step k64 _ 64 rfl (N := 116) rfl (xs := ([(⟨Go.bits .or .i64 (Go.bits .or .i64 1610612736 (wrap64 (d0 * 1048576))) d1, 4⟩ : S64), (⟨((x8_44 ++ d15).size : Int), 2⟩ : S64), (⟨rd y249 0, 1⟩ : S64), (⟨d2, 1⟩ : S64)] : List (S64))) (inner := [.int .i64 (Go.bits .or .i64 (Go.bits .or .i64 1610612736 (wrap64 (d0 * 1048576))) d1), .int .i64 4, .int .i64 ((x8_44 ++ d15).size : Int), .int .i64 2, .int .i64 (rd y249 0), .int .i64 1, .int .i64 d2, .int .i64 1]) (ok := fun _ => True) (okp := fun _ => True) kG ?hp (fun _ hk => hk) trivial (Below.refl _ _) (Nat.le_refl _) (by simp) ?_; (case hp => exact (Reps.c2 (show Kd.M k64 _ _ _ (⟨Go.bits .or .i64 (Go.bits .or .i64 1610612736 (wrap64 (d0 * 1048576))) d1, 4⟩ : S64) [.int .i64 (Go.bits .or .i64 (Go.bits .or .i64 1610612736 (wrap64 (d0 * 1048576))) d1), .int .i64 4] from (k64_mkM _ _ _ (⟨Go.bits .or .i64 (Go.bits .or .i64 1610612736 (wrap64 (d0 * 1048576))) d1, 4⟩ : S64) )) (Reps.c2 (show Kd.M k64 _ _ _ (⟨((x8_44 ++ d15).size : Int), 2⟩ : S64) [.int .i64 ((x8_44 ++ d15).size : Int), .int .i64 2] from (k64_mkM _ _ _ (⟨((x8_44 ++ d15).size : Int), 2⟩ : S64) )) (Reps.c2 (show Kd.M k64 _ _ _ (⟨rd y249 0, 1⟩ : S64) [.int .i64 (rd y249 0), .int .i64 1] from (k64_mkM _ _ _ (⟨rd y249 0, 1⟩ : S64) )) (Reps.c2 (show Kd.M k64 _ _ _ (⟨d2, 1⟩ : S64) [.int .i64 d2, .int .i64 1] from (k64_mkM _ _ _ (⟨d2, 1⟩ : S64) )) (Reps.none _ _))))))
            intro v265 w71 ho72 hb hg_ hnew_
            have HS16_ := hcell hb hHeld.2.2.2.2.2.2.2.2.2.2.2.2.2.2.2.2
            clear hg_ hnew_
            (first | rw [← Ny264.out] at ho72 | (simp only [Int.reduceToNat] at ho72; rw [← Ny264.out] at ho72))
            replace HO_5 := As (Kd.R_below (kR HO_5.out) hb)
            have HO266 := As (Kd.R_lower ho72 (below_size (kB1 HB.out GE236.out)))
            replace BK236 := As (blk_below (kb BK236.out) hb)
            replace HB := As (below_step (kB1 HB.out GE236.out) hb)
            clear hb ho72
            obtain ⟨Ao73, co73, eo73⟩ := Kd.R_slice HO266.out
            (first | subst eo73 | (injection eo73 with f1_ f2_ f3_; have f4_ := f1_.symm; have f5_ := f3_.symm; clear f1_ f2_ f3_; subst f4_; subst f5_))
            refine hK.out _ _ ⟨(blk_cell BK236.out 0).trans rfl, (blk_cell BK236.out 1).trans rfl, (blk_cell BK236.out 2).trans rfl, (blk_cell BK236.out 3).trans rfl, (blk_cell BK236.out 4).trans rfl, (blk_cell BK236.out 5).trans rfl, (blk_cell BK236.out 6).trans rfl, (blk_cell BK236.out 7).trans rfl, (blk_cell BK236.out 8).trans rfl, (blk_cell BK236.out 9).trans rfl, (blk_cell BK236.out 10).trans rfl, (blk_cell BK236.out 11).trans rfl, (blk_cell BK236.out 12).trans rfl, (blk_cell BK236.out 13).trans rfl, (blk_cell BK236.out 14).trans rfl, (blk_cell BK236.out 15).trans rfl, HS16_⟩ (fun hHeld => ?_)
            clear hK K
            refine norm_ (a' := ?_) ?_ ?_
            rotate_left
            ·show Act.put _ (some 116) _ = _
             simp only [Act.put, sA, sZ, sS, i64_w, i32_w]
             rfl
            refine one_ (i := 19) (N := some 117) #[true, true, true, true, true, true, true, true, true, true, true, true, true, true, true, true, true, true, true, true, false] rfl rfl (one_of HT_.out (by kernel_rfl)) (by decide) (fun K hK => ?_)
            refine goes_ Try.func35 (by kernel_rfl) rfl #[.slice Ao73 y264.length co73] (by rfl) rfl rfl kA ?_
            with_reducible refine (ipv6_join.calls kj44 _ _ y264 t267 _ ?side1 ?side2 A62.out).mono ?_
            (case side1 => repeat (first | exact (Kd.R_reads' HO266.out).2.2 | (with_reducible refine Kd.C_alloc ?_ _) | (with_reducible refine Kd.C_drewN ?_ _) | (with_reducible refine Kd.C_drew ?_)))
            (case side2 => exact (Kd.R_reads' HO266.out).2.1)
            rintro e w74 ⟨rfl, hb⟩
            have HS16_ := hcell hb hHeld.2.2.2.2.2.2.2.2.2.2.2.2.2.2.2.2
            refine ⟨_, rfl, ?_⟩
            replace HO_5 := As (Kd.R_below (kR HO_5.out) hb)
            replace HO266 := As (Kd.R_below (kR HO266.out) hb)
            replace BK236 := As (blk_below (kb BK236.out) hb)
            replace HB := As (below_step (kB1 HB.out GE236.out) hb)
            (try clear hb)
            (try clear hb2)
            (try clear hk)
            (try clear hi)
            refine hK.out _ _ ⟨(blk_cell BK236.out 0).trans rfl, (blk_cell BK236.out 1).trans rfl, (blk_cell BK236.out 2).trans rfl, (blk_cell BK236.out 3).trans rfl, (blk_cell BK236.out 4).trans rfl, (blk_cell BK236.out 5).trans rfl, (blk_cell BK236.out 6).trans rfl, (blk_cell BK236.out 7).trans rfl, (blk_cell BK236.out 8).trans rfl, (blk_cell BK236.out 9).trans rfl, (blk_cell BK236.out 10).trans rfl, (blk_cell BK236.out 11).trans rfl, (blk_cell BK236.out 12).trans rfl, (blk_cell BK236.out 13).trans rfl, (blk_cell BK236.out 14).trans rfl, (blk_cell BK236.out 15).trans rfl, HS16_⟩ (fun hHeld => ?_)
            clear hK K
            refine norm_ (a' := ?_) ?_ ?_
            rotate_left
            ·show Act.put _ (some 117) _ = _
             simp only [Act.put, sA, sZ, sS, i64_w, i32_w]
             rfl
            refine kP 20 12 #[true, true, true, true, true, true, true, true, true, true, true, true, true, true, true, true, true, true, true, true, true] ?_ (any_of HT_.out (by kernel_rfl))
            refine done_ (done_of HT_.out (by kernel_rfl)) ?_
            try go_wp2
            replace HO_5 := As (Kd.R_drew HO_5.out)
            replace HO266 := As (Kd.R_drew HO266.out)
            replace BK236 := As (blk_drew BK236.out)
            replace HB := As (below_drew1 HB.out)
            refine start_ (n := 13) (S := fun w' => w'.cell? ⟨gb236, 0, none⟩ = some (.int .i64 d0) ∧ w'.cell? ⟨gb236, 1, none⟩ = some (.int .i64 d1) ∧ w'.cell? ⟨gb236, 2, none⟩ = some (.int .i64 d2) ∧ w'.cell? ⟨gb236, 3, none⟩ = some (.int .i64 d3) ∧ w'.cell? ⟨gb236, 4, none⟩ = some (.bool d4) ∧ w'.cell? ⟨gb236, 5, none⟩ = some (.int .u64 d5) ∧ w'.cell? ⟨gb236, 6, none⟩ = some (.int .u64 d6) ∧ w'.cell? ⟨gb236, 7, none⟩ = some (.bool d7) ∧ w'.cell? ⟨gb236, 8, none⟩ = some (.int .u64 d8) ∧ w'.cell? ⟨gb236, 9, none⟩ = some (.int .u64 d9) ∧ w'.cell? ⟨gb236, 10, none⟩ = some (.slice A0_10 l0_10.length c0_10) ∧ w'.cell? ⟨gb236, 11, none⟩ = some (.bool d11) ∧ w'.cell? ⟨gb236, 12, none⟩ = some (.int .i64 d12) ∧ w'.cell? ⟨gb236, 13, none⟩ = some (.int .i64 d13) ∧ w'.cell? ⟨gb236, 14, none⟩ = some (.bool d14) ∧ w'.cell? ⟨gb236, 15, none⟩ = some (.string d15)) (ds := []) #[false, false, false, false, false, false, false, false, false, false, false, false, false] (by kernel_rfl) rfl rfl ⟨(blk_cell BK236.out 0).trans rfl, (blk_cell BK236.out 1).trans rfl, (blk_cell BK236.out 2).trans rfl, (blk_cell BK236.out 3).trans rfl, (blk_cell BK236.out 4).trans rfl, (blk_cell BK236.out 5).trans rfl, (blk_cell BK236.out 6).trans rfl, (blk_cell BK236.out 7).trans rfl, (blk_cell BK236.out 8).trans rfl, (blk_cell BK236.out 9).trans rfl, (blk_cell BK236.out 10).trans rfl, (blk_cell BK236.out 11).trans rfl, (blk_cell BK236.out 12).trans rfl, (blk_cell BK236.out 13).trans rfl, (blk_cell BK236.out 14).trans rfl, (blk_cell BK236.out 15).trans rfl⟩ (fun hHeld => ?_); refine with_tabW ipv6_Encode.tab28 ipv6_Encode.bits28 (fun HT_ HW_ => ?_)
            generalize w74.drew = w75 at HO_5 HO266 BK236 HB hHeld ⊢
            refine kP 0 118 #[true, false, false, false, false, false, false, false, false, false, false, false, false] ?_ (any_of HT_.out (by kernel_rfl))
            refine kP 1 119 #[true, true, false, false, false, false, false, false, false, false, false, false, false] ?_ (any_of HT_.out (by kernel_rfl))
            refine kP 5 123 #[true, true, false, false, false, true, false, false, false, false, false, false, false] ?_ (any_of HT_.out (by kernel_rfl))
            refine kP 9 127 #[true, true, false, false, false, true, false, false, false, true, false, false, false] ?_ (any_of HT_.out (by kernel_rfl))
            refine take_ (i := 2) (N := some 120) (v := ?_) (a' := ?_) #[true, true, true, false, false, true, false, false, false, true, false, false, false] rfl rfl (take_ofW HT_.out HW_.out (by kernel_rfl)) (fun _ _ _ h => h) (Or.inl ⟨by rfl, ?_⟩) hHeld ?_ ?_
            rotate_left
            ·rintro w' ⟨s0, s1, s2, s3, s4, s5, s6, s7, s8, s9, s10, s11, s12, s13, s14, s15⟩
             go_simp
             with_reducible rfl
            rotate_left
            ·simp only [Act.put, sA, sZ, sS, i64_w, i32_w]
             rfl
            refine take_ (i := 6) (N := some 124) (v := ?_) (a' := ?_) #[true, true, true, false, false, true, true, false, false, true, false, false, false] rfl rfl (take_ofW HT_.out HW_.out (by kernel_rfl)) (fun _ _ _ h => h) (Or.inl ⟨by rfl, ?_⟩) hHeld ?_ ?_
            rotate_left
            ·rintro w' ⟨s0, s1, s2, s3, s4, s5, s6, s7, s8, s9, s10, s11, s12, s13, s14, s15⟩
             go_simp
             with_reducible rfl
            rotate_left
            ·simp only [Act.put, sA, sZ, sS, i64_w, i32_w]
             rfl
            refine one_ (i := 3) (N := some 121) #[true, true, true, true, false, true, true, false, false, true, false, false, false] rfl rfl (one_of HT_.out (by kernel_rfl)) (by decide) (fun K hK => ?_)
            refine goes_ Try.func36 (by kernel_rfl) rfl #[.agg #[.bool d4, .int .u64 d5, .int .u64 d6]] (by rfl) rfl rfl kA ?_
            with_reducible refine (address_Bytes.calls kj44 d4 d5 d6 t268 _ A63.out).mono ?_
            rintro e w76 ⟨rfl, hb⟩
            refine ⟨_, rfl, ?_⟩
            replace HO_5 := As (Kd.R_below (kR HO_5.out) hb)
            replace HO266 := As (Kd.R_below (kR HO266.out) hb)
            replace BK236 := As (blk_below (kb BK236.out) hb)
            replace HB := As (below_step (kB1 HB.out GE236.out) hb)
            (try clear hb)
            (try clear hb2)
            (try clear hk)
            (try clear hi)
            refine hK.out _ _ ⟨(blk_cell BK236.out 0).trans rfl, (blk_cell BK236.out 1).trans rfl, (blk_cell BK236.out 2).trans rfl, (blk_cell BK236.out 3).trans rfl, (blk_cell BK236.out 4).trans rfl, (blk_cell BK236.out 5).trans rfl, (blk_cell BK236.out 6).trans rfl, (blk_cell BK236.out 7).trans rfl, (blk_cell BK236.out 8).trans rfl, (blk_cell BK236.out 9).trans rfl, (blk_cell BK236.out 10).trans rfl, (blk_cell BK236.out 11).trans rfl, (blk_cell BK236.out 12).trans rfl, (blk_cell BK236.out 13).trans rfl, (blk_cell BK236.out 14).trans rfl, (blk_cell BK236.out 15).trans rfl⟩ (fun hHeld => ?_)
            clear hK K
            refine norm_ (a' := ?_) ?_ ?_
            rotate_left
            ·show Act.put _ (some 121) _ = _
             simp only [Act.put, sA, sZ, sS, i64_w, i32_w]
             rfl
            refine kP 4 122 #[true, true, true, true, true, true, true, false, false, true, false, false, false] ?_ (any_of HT_.out (by kernel_rfl))
            refine one_ (i := 7) (N := some 125) #[true, true, true, true, true, true, true, true, false, true, false, false, false] rfl rfl (one_of HT_.out (by kernel_rfl)) (by decide) (fun K hK => ?_)
            refine goes_ Try.func36 (by kernel_rfl) rfl #[.agg #[.bool d7, .int .u64 d8, .int .u64 d9]] (by rfl) rfl rfl kA ?_
            with_reducible refine (address_Bytes.calls kj44 d7 d8 d9 t269 _ A65.out).mono ?_
            rintro e w77 ⟨rfl, hb⟩
            refine ⟨_, rfl, ?_⟩
            replace HO_5 := As (Kd.R_below (kR HO_5.out) hb)
            replace HO266 := As (Kd.R_below (kR HO266.out) hb)
            replace BK236 := As (blk_below (kb BK236.out) hb)
            replace HB := As (below_step (kB1 HB.out GE236.out) hb)
            (try clear hb)
            (try clear hb2)
            (try clear hk)
            (try clear hi)
            refine hK.out _ _ ⟨(blk_cell BK236.out 0).trans rfl, (blk_cell BK236.out 1).trans rfl, (blk_cell BK236.out 2).trans rfl, (blk_cell BK236.out 3).trans rfl, (blk_cell BK236.out 4).trans rfl, (blk_cell BK236.out 5).trans rfl, (blk_cell BK236.out 6).trans rfl, (blk_cell BK236.out 7).trans rfl, (blk_cell BK236.out 8).trans rfl, (blk_cell BK236.out 9).trans rfl, (blk_cell BK236.out 10).trans rfl, (blk_cell BK236.out 11).trans rfl, (blk_cell BK236.out 12).trans rfl, (blk_cell BK236.out 13).trans rfl, (blk_cell BK236.out 14).trans rfl, (blk_cell BK236.out 15).trans rfl⟩ (fun hHeld => ?_)
            clear hK K
            refine norm_ (a' := ?_) ?_ ?_
            rotate_left
            ·show Act.put _ (some 125) _ = _
             simp only [Act.put, sA, sZ, sS, i64_w, i32_w]
             rfl
            refine kP 8 126 #[true, true, true, true, true, true, true, true, true, true, false, false, false] ?_ (any_of HT_.out (by kernel_rfl))
            refine kP 10 128 #[true, true, true, true, true, true, true, true, true, true, true, false, false] ?_ (any_of HT_.out (by kernel_rfl))
            refine kP 11 2 #[true, true, true, true, true, true, true, true, true, true, true, true, false] ?_ (any_of HT_.out (by kernel_rfl))
            refine kP 12 3 #[true, true, true, true, true, true, true, true, true, true, true, true, true] ?_ (any_of HT_.out (by kernel_rfl))
            refine done_ (done_of HT_.out (by kernel_rfl)) ?_
            try go_wp2
            go_ret2
            exact ⟨kE, by exact kB1 HB.out GE236.out⟩
           rw [if_neg c67] at H
           exact absurd H (by simp)
          rw [if_neg c66] at H
          exact absurd H (by simp)
         rw [if_neg c64] at H
         exact absurd H (by simp)
        rw [if_neg c61] at H
        exact absurd H (by simp)
       rw [if_neg c58] at H
       exact absurd H (by simp)
    rw [if_neg c22] at H
    exact absurd H (by simp)
 rw [if_neg c3] at H
 have c3b0 : (t237 == 0) = false := beq_eq_false_iff_ne.mpr c3
 have c3b1 : (t237 != 0) = true := bne_iff_ne.mpr c3
 simp only [Option.some.injEq, Prod.mk.injEq] at H
 obtain ⟨rfl, rfl⟩ := H
 go_enter Try.func15, Try.ntmps15
 go_wp2_with (first | ((with_reducible refine gate_dst (N := 1) rfl ?_); refine box_event rfl (N := 1) rfl (cs := #[.int .i64 d0, .int .i64 d1, .int .i64 d2, .int .i64 d3, .bool d4, .int .u64 d5, .int .u64 d6, .bool d7, .int .u64 d8, .int .u64 d9, .slice A0_10 l0_10.length c0_10, .bool d11, .int .i64 d12, .int .i64 d13, .bool d14, .string d15]) (t := 28) kG ?_; intro gb236 hg w78 hbox hb; have BK236 := As (hbox); have GW236 := As ((by rw [hg]; exact (below_size (kB HB.out)) : w.heap.size ≤ gb236)); have GE236 := As ((by rw [hg]; exact (below_size (kB HB.out)) : w.heap.size ≤ gb236)); replace HB := As (below_step (kB HB.out) hb); clear hb hbox hg) | ((with_reducible refine gate_dst (N := 13) rfl ?_); refine wpList_load_row rfl 28 _ rfl gb236 rfl 28 _ (0, 0) _ (kb BK236.out) Try.underlying28 rfl (by kernel_rfl) ?_) | ((with_reducible refine gate_callee (f := 34) rfl ?_); refine goesL_ (some 14) rfl rfl Try.func34 (by kernel_rfl) rfl #[.agg #[.int .i64 d0, .int .i64 d1, .int .i64 d2, .int .i64 d3, .bool d4, .int .u64 d5, .int .u64 d6, .bool d7, .int .u64 d8, .int .u64 d9, .slice A0_10 l0_10.length c0_10, .bool d11, .int .i64 d12, .int .i64 d13, .bool d14, .string d15]] rfl kA ?_; (with_reducible refine (ipv6_check.calls k d0 d1 d2 d3 d4 d5 d6 d7 d8 d9 _ _ l0_10 d11 d12 d13 d14 d15 t237 _ ?side1 ?side2 A2.out).mono ?_); (case side1 => repeat (first | exact (Kd.C_below HR0_10.out HB.out) | (with_reducible refine Kd.C_alloc ?_ _) | (with_reducible refine Kd.C_drewN ?_ _) | (with_reducible refine Kd.C_drew ?_))); (case side2 => exact HC0_10.out); rintro e w79 ⟨rfl, hb⟩; refine ⟨_, rfl, ?_⟩; replace BK236 := As (blk_below (kb BK236.out) hb); replace HB := As (below_step (kB1 HB.out GE236.out) hb); (try clear hb)))
 go_ret2
 exact ⟨kE, by exact kB1 HB.out GE236.out⟩

end Go.Proofs.Ytljboandbjahdaa.X
-- short
