/- Functions and their walks, printed by xprint.py. -/
import Derived.Test.YtobioaommmgehaaZ0
import Derived.Test.YtobioaommmgehaaZ6
import Derived.Test.YtobioaommmgehaaZ9
import Derived.Test.YtobioaommmgehaaZ10
import Derived.Test.YtobioaommmgehaaZ11
namespace Go.Proofs.Ytobioaommmgehaa.Z
open Go.RowKit Go.Proofs.YtobioaommmgehaaW.PrintWords Go.Proofs.YtobioaommmgehaaW.PrintLast Go.Proofs.YtobioaommmgehaaW.PrintMore
attribute [local go_sem] max2_int min2_int max_two min_two max_three min_three max_four min_four   -- for this text's walks alone
set_option linter.unusedVariables false
set_option linter.unusedSimpArgs false

/-! ### intrusionlaw11_awake: function 10 -/
def intrusionlaw11_awake.j0 : Nat → ByteArray → List (S28) → Bool → Int → Int → Int → Int → Bool → Bool → Int → Bool → Int → Int → Bool → Int → Int → List (S50) → ByteArray → Option (Bool)
 | 0, _, _, _, _, _, _, _, _, _, _, _, _, _, _, _, _, _, _ => none
 | k + 1, x1, x5, x45, x303000, x303001, x303002, x303003, x303004, x303005, x303006, x303007, x303008, x303009, x303010, x303011, x303012, x303013, x303014 => if x45 = true then (none) else (if 0 ≤ 12 then (if 12 ≤ (x1.size : Int) then (if (x1.extract 0 12).toList = ([69, 0, 0, 22, 0, 0, 0, 0, 64, 17, 102, 213] : List UInt8) then ((intrusionlaw11_example.f).bind fun bt341 => ((intrusionlaw11_same.f k x303000 x303001 x303002 x303003 x303004 x303005 x303006 x303007 x303008 x303009 x303010 x303011 x303012 x303013 x303014 bt341.1 bt341.2.1 bt341.2.2.1 bt341.2.2.2.1 bt341.2.2.2.2.1 bt341.2.2.2.2.2.1 bt341.2.2.2.2.2.2.1 bt341.2.2.2.2.2.2.2.1 bt341.2.2.2.2.2.2.2.2.1 bt341.2.2.2.2.2.2.2.2.2.1 bt341.2.2.2.2.2.2.2.2.2.2.1 bt341.2.2.2.2.2.2.2.2.2.2.2.1 bt341.2.2.2.2.2.2.2.2.2.2.2.2.1 bt341.2.2.2.2.2.2.2.2.2.2.2.2.2.1 bt341.2.2.2.2.2.2.2.2.2.2.2.2.2.2).bind fun t358 => (if t358 = true then (if 1 < (x5.length : Int) then (if ((rd_T28 x5 1).f6) = 8 then (if 2 < (x5.length : Int) then (if ((rd_T28 x5 2).f6) = 16 then (if ((rd_T28 x5 2).f10).toList = ([99, 99, 99, 99] : List UInt8) then (if (rd_T28 x5 1).f5 = true then (if ((rd_T28 x5 2).f5 = true) then (none) else ((ipv4_Fragment.f ((rd_T28 x5 1).f0) ((rd_T28 x5 1).f1) ((rd_T28 x5 1).f2) ((rd_T28 x5 1).f3) ((rd_T28 x5 1).f4) ((rd_T28 x5 1).f5) ((rd_T28 x5 1).f6) ((rd_T28 x5 1).f7.f0) ((rd_T28 x5 1).f7.f1) ((rd_T28 x5 1).f7.f2) ((rd_T28 x5 1).f8.f0) ((rd_T28 x5 1).f8.f1) ((rd_T28 x5 1).f8.f2) ((rd_T28 x5 1).f9) ((rd_T28 x5 1).f10)).bind fun bt365 => (if bt365.2.2.2.2.2.2.2.2.2.2.2.toList = ([98, 98, 98, 98, 98, 98, 98, 98] : List UInt8) then ((ipv4_Routed.f k 0 0 0 0 false false 0 false 0 0 false 0 0 (([(⟨131, (⟨#[]⟩ : ByteArray)⟩ : S50)] : List (S50))) (⟨#[]⟩ : ByteArray)).bind fun t380 => (some t380)) else (none)))) else (none)) else (none)) else (none)) else (none)) else (none)) else (none)) else (none)))) else (none)) else (none)) else (none))
def intrusionlaw11_awake.f (k : Nat)  : Option (Bool) := (intrusionlaw11_example.f).bind fun bt265 => ((ipv4_Encode.f k bt265.1 bt265.2.1 bt265.2.2.1 bt265.2.2.2.1 bt265.2.2.2.2.1 bt265.2.2.2.2.2.1 bt265.2.2.2.2.2.2.1 bt265.2.2.2.2.2.2.2.1 bt265.2.2.2.2.2.2.2.2.1 bt265.2.2.2.2.2.2.2.2.2.1 bt265.2.2.2.2.2.2.2.2.2.2.1 bt265.2.2.2.2.2.2.2.2.2.2.2.1 bt265.2.2.2.2.2.2.2.2.2.2.2.2.1 bt265.2.2.2.2.2.2.2.2.2.2.2.2.2.1 bt265.2.2.2.2.2.2.2.2.2.2.2.2.2.2).bind fun bt282 => ((ipv4_Decode.f k bt282.1).bind fun bt284 => ((intrusionlaw11_example.f).bind fun bt303 => ((intrusionlaw11_example.f).bind fun bt320 => ((ipv4_Split.f k 0 0 0 0 false false 0 bt303.2.2.2.2.2.2.2.1 bt303.2.2.2.2.2.2.2.2.1 bt303.2.2.2.2.2.2.2.2.2.1 bt320.2.2.2.2.2.2.2.2.2.2.1 bt320.2.2.2.2.2.2.2.2.2.2.2.1 bt320.2.2.2.2.2.2.2.2.2.2.2.2.1 ([] : List (S50)) (⟨#[97, 97, 97, 97, 97, 97, 97, 97, 98, 98, 98, 98, 98, 98, 98, 98, 99, 99, 99, 99]⟩ : ByteArray) 8).bind fun bt337 => (if bt282.2 = 0 then (if bt284.2.2.2.2.2.2.2.2.2.2.2.2.2.2.2 = 0 then (if bt337.2 = 0 then (if (bt282.1.size : Int) = 22 then (intrusionlaw11_awake.j0 k bt282.1 bt337.1 ((bt337.1.length : Int) != 3) bt284.1 bt284.2.1 bt284.2.2.1 bt284.2.2.2.1 bt284.2.2.2.2.1 bt284.2.2.2.2.2.1 bt284.2.2.2.2.2.2.1 bt284.2.2.2.2.2.2.2.1 bt284.2.2.2.2.2.2.2.2.1 bt284.2.2.2.2.2.2.2.2.2.1 bt284.2.2.2.2.2.2.2.2.2.2.1 bt284.2.2.2.2.2.2.2.2.2.2.2.1 bt284.2.2.2.2.2.2.2.2.2.2.2.2.1 bt284.2.2.2.2.2.2.2.2.2.2.2.2.2.1 bt284.2.2.2.2.2.2.2.2.2.2.2.2.2.2.1) else (intrusionlaw11_awake.j0 k bt282.1 bt337.1 true bt284.1 bt284.2.1 bt284.2.2.1 bt284.2.2.2.1 bt284.2.2.2.2.1 bt284.2.2.2.2.2.1 bt284.2.2.2.2.2.2.1 bt284.2.2.2.2.2.2.2.1 bt284.2.2.2.2.2.2.2.2.1 bt284.2.2.2.2.2.2.2.2.2.1 bt284.2.2.2.2.2.2.2.2.2.2.1 bt284.2.2.2.2.2.2.2.2.2.2.2.1 bt284.2.2.2.2.2.2.2.2.2.2.2.2.1 bt284.2.2.2.2.2.2.2.2.2.2.2.2.2.1 bt284.2.2.2.2.2.2.2.2.2.2.2.2.2.2.1)) else (intrusionlaw11_awake.j0 k bt282.1 bt337.1 true bt284.1 bt284.2.1 bt284.2.2.1 bt284.2.2.2.1 bt284.2.2.2.2.1 bt284.2.2.2.2.2.1 bt284.2.2.2.2.2.2.1 bt284.2.2.2.2.2.2.2.1 bt284.2.2.2.2.2.2.2.2.1 bt284.2.2.2.2.2.2.2.2.2.1 bt284.2.2.2.2.2.2.2.2.2.2.1 bt284.2.2.2.2.2.2.2.2.2.2.2.1 bt284.2.2.2.2.2.2.2.2.2.2.2.2.1 bt284.2.2.2.2.2.2.2.2.2.2.2.2.2.1 bt284.2.2.2.2.2.2.2.2.2.2.2.2.2.2.1)) else (intrusionlaw11_awake.j0 k bt282.1 bt337.1 true bt284.1 bt284.2.1 bt284.2.2.1 bt284.2.2.2.1 bt284.2.2.2.2.1 bt284.2.2.2.2.2.1 bt284.2.2.2.2.2.2.1 bt284.2.2.2.2.2.2.2.1 bt284.2.2.2.2.2.2.2.2.1 bt284.2.2.2.2.2.2.2.2.2.1 bt284.2.2.2.2.2.2.2.2.2.2.1 bt284.2.2.2.2.2.2.2.2.2.2.2.1 bt284.2.2.2.2.2.2.2.2.2.2.2.2.1 bt284.2.2.2.2.2.2.2.2.2.2.2.2.2.1 bt284.2.2.2.2.2.2.2.2.2.2.2.2.2.2.1)) else (intrusionlaw11_awake.j0 k bt282.1 bt337.1 true bt284.1 bt284.2.1 bt284.2.2.1 bt284.2.2.2.1 bt284.2.2.2.2.1 bt284.2.2.2.2.2.1 bt284.2.2.2.2.2.2.1 bt284.2.2.2.2.2.2.2.1 bt284.2.2.2.2.2.2.2.2.1 bt284.2.2.2.2.2.2.2.2.2.1 bt284.2.2.2.2.2.2.2.2.2.2.1 bt284.2.2.2.2.2.2.2.2.2.2.2.1 bt284.2.2.2.2.2.2.2.2.2.2.2.2.1 bt284.2.2.2.2.2.2.2.2.2.2.2.2.2.1 bt284.2.2.2.2.2.2.2.2.2.2.2.2.2.2.1)))))))
theorem intrusionlaw11_awake.mono_l : ∀ k, (∀ y0 y1 y2 y3 y4 y5 y6 y7 y8 y9 y10 y11 y12 y13 y14 y15 y16 y17, LeO (intrusionlaw11_awake.j0 k y0 y1 y2 y3 y4 y5 y6 y7 y8 y9 y10 y11 y12 y13 y14 y15 y16 y17) (intrusionlaw11_awake.j0 (k + 1) y0 y1 y2 y3 y4 y5 y6 y7 y8 y9 y10 y11 y12 y13 y14 y15 y16 y17))
 | 0 => fun _ _ _ _ _ _ _ _ _ _ _ _ _ _ _ _ _ _ r h => by simp [intrusionlaw11_awake.j0] at h
 | k + 1 => by
  have ih0 := intrusionlaw11_awake.mono_l k
  intro y0 y1 y2 y3 y4 y5 y6 y7 y8 y9 y10 y11 y12 y13 y14 y15 y16 y17
  unfold intrusionlaw11_awake.j0
  repeat' first | with_reducible first | apply ih0 | apply intrusionlaw11_same.mono | apply ipv4_Decode.mono | apply ipv4_Encode.mono | apply ipv4_Routed.mono | apply ipv4_Split.mono | apply LeO.refl | apply LeO.none | refine LeO.ite ?_ ?_ | refine LeO.bind ?_ (fun _ => ?_)
theorem intrusionlaw11_awake.mono : ∀ k, LeO (intrusionlaw11_awake.f k ) (intrusionlaw11_awake.f (k + 1) ) := by
 intro  k
 have ih0 := intrusionlaw11_awake.mono_l k
 unfold intrusionlaw11_awake.f
 repeat' first | with_reducible first | apply ih0 | apply intrusionlaw11_same.mono | apply ipv4_Decode.mono | apply ipv4_Encode.mono | apply ipv4_Routed.mono | apply ipv4_Split.mono | apply LeO.refl | apply LeO.none | refine LeO.ite ?_ ?_ | refine LeO.bind ?_ (fun _ => ?_)
def intrusionlaw11_awake.T6 : Bool × List (List Nat × List Nat) := (true, [([], []), ([0], [0]), ([1], [1]), ([2], [2]), ([3], [3]), ([3, 3], [3]), ([4, 5, 5, 3], [3, 4, 5]), ([3, 6], [3, 6]), ([7, 6], [7]), ([8], [8]), ([9, 8], [8, 9]), ([10, 8], [8, 10]), ([11, 8], [8, 11]), ([12, 8], [8, 12]), ([8, 13], [8, 13]), ([14, 8], [14]), ([15], [15]), ([16, 15], [15, 16]), ([17, 15], [15, 17]), ([18, 15], [15, 18]), ([19, 15], [15, 19]), ([15, 20], [15, 20]), ([21, 15], [21]), ([22], [22]), ([23, 22], [22, 23]), ([24, 22], [22, 24]), ([25, 22], [22, 25]), ([26, 22], [22, 26]), ([22, 27], [22, 27]), ([28, 22], [28]), ([29], [29]), ([30, 29], [29, 30]), ([31, 29], [29, 31]), ([32, 29], [29, 32]), ([29, 33], [29, 33]), ([34, 29], [34]), ([35], [35]), ([36, 35], [35, 36]), ([37, 35], [35, 37]), ([38, 35], [35, 38]), ([39, 35], [35, 39]), ([35, 40], [35, 40]), ([41, 35], [41]), ([42], [42]), ([43, 42], [42, 43]), ([44, 42], [42, 44]), ([45, 42, 42], [42, 45]), ([46, 42], [42, 46]), ([47, 42], [42, 47]), ([42, 48], [42, 48]), ([49, 46], [49]), ([50], [50]), ([51, 50], [50, 51]), ([52, 50], [50, 52]), ([53, 50, 50], [50, 53]), ([50, 54], [50, 54]), ([55, 54, 0, 1, 2, 3, 4, 5, 6, 7, 8, 9, 10, 11, 12, 13, 14, 15, 16, 17, 18, 19, 20, 21, 22, 23, 24, 25, 26, 27, 28, 29, 30, 31, 32, 33, 34, 35, 36, 37, 38, 39, 40, 41, 42, 43, 44, 45, 46, 47, 48, 49, 50, 51, 52, 53, 54, 55], [55])])
def intrusionlaw11_awake.B6 : List Nat := [0, 1, 3, 7, 15, 15, 63, 127, 255, 511, 1023, 2047, 4095, 8191, 16383, 32767, 65535, 131071, 262143, 524287, 1048575, 2097151, 4194303, 8388607, 16777215, 33554431, 67108863, 134217727, 268435455, 536870911, 1073741823, 2147483647, 4294967295, 8589934591, 17179869183, 34359738367, 68719476735, 137438953471, 274877906943, 549755813887, 1099511627775, 2199023255551, 4398046511103, 8796093022207, 17592186044415, 35184372088831, 70368744177663, 140737488355327, 281474976710655, 562949953421311, 1125899906842623, 2251799813685247, 4503599627370495, 9007199254740991, 18014398509481983, 36028797018963967, 72057594037927935]
theorem intrusionlaw11_awake.tab6 : rtab .any (opsOf Try.f10 6) = intrusionlaw11_awake.T6 := by kernel_rfl
theorem intrusionlaw11_awake.bits6 : waitsOk intrusionlaw11_awake.T6.2 intrusionlaw11_awake.B6 = true := by kernel_rfl
set_option maxHeartbeats 8000000 in
set_option maxRecDepth 100000 in
theorem intrusionlaw11_awake.calls (k : Nat)  (r : Bool) (w : World) (h : intrusionlaw11_awake.f k  = some r) :
  Calls Try.prog 10 #[] w fun e w' => e = .returned (.bool r) ∧ Below w.heap.size w w' := by
 have hu28 := Try.underlying28
 have hu50 := Try.underlying50
 have HB := As (Below.refl w.heap.size w)
 have H : ((intrusionlaw11_example.f).bind fun bt265 => ((ipv4_Encode.f k bt265.1 bt265.2.1 bt265.2.2.1 bt265.2.2.2.1 bt265.2.2.2.2.1 bt265.2.2.2.2.2.1 bt265.2.2.2.2.2.2.1 bt265.2.2.2.2.2.2.2.1 bt265.2.2.2.2.2.2.2.2.1 bt265.2.2.2.2.2.2.2.2.2.1 bt265.2.2.2.2.2.2.2.2.2.2.1 bt265.2.2.2.2.2.2.2.2.2.2.2.1 bt265.2.2.2.2.2.2.2.2.2.2.2.2.1 bt265.2.2.2.2.2.2.2.2.2.2.2.2.2.1 bt265.2.2.2.2.2.2.2.2.2.2.2.2.2.2).bind fun bt282 => ((ipv4_Decode.f k bt282.1).bind fun bt284 => ((intrusionlaw11_example.f).bind fun bt303 => ((intrusionlaw11_example.f).bind fun bt320 => ((ipv4_Split.f k 0 0 0 0 false false 0 bt303.2.2.2.2.2.2.2.1 bt303.2.2.2.2.2.2.2.2.1 bt303.2.2.2.2.2.2.2.2.2.1 bt320.2.2.2.2.2.2.2.2.2.2.1 bt320.2.2.2.2.2.2.2.2.2.2.2.1 bt320.2.2.2.2.2.2.2.2.2.2.2.2.1 ([] : List (S50)) (⟨#[97, 97, 97, 97, 97, 97, 97, 97, 98, 98, 98, 98, 98, 98, 98, 98, 99, 99, 99, 99]⟩ : ByteArray) 8).bind fun bt337 => (if bt282.2 = 0 then (if bt284.2.2.2.2.2.2.2.2.2.2.2.2.2.2.2 = 0 then (if bt337.2 = 0 then (if (bt282.1.size : Int) = 22 then (intrusionlaw11_awake.j0 k bt282.1 bt337.1 ((bt337.1.length : Int) != 3) bt284.1 bt284.2.1 bt284.2.2.1 bt284.2.2.2.1 bt284.2.2.2.2.1 bt284.2.2.2.2.2.1 bt284.2.2.2.2.2.2.1 bt284.2.2.2.2.2.2.2.1 bt284.2.2.2.2.2.2.2.2.1 bt284.2.2.2.2.2.2.2.2.2.1 bt284.2.2.2.2.2.2.2.2.2.2.1 bt284.2.2.2.2.2.2.2.2.2.2.2.1 bt284.2.2.2.2.2.2.2.2.2.2.2.2.1 bt284.2.2.2.2.2.2.2.2.2.2.2.2.2.1 bt284.2.2.2.2.2.2.2.2.2.2.2.2.2.2.1) else (intrusionlaw11_awake.j0 k bt282.1 bt337.1 true bt284.1 bt284.2.1 bt284.2.2.1 bt284.2.2.2.1 bt284.2.2.2.2.1 bt284.2.2.2.2.2.1 bt284.2.2.2.2.2.2.1 bt284.2.2.2.2.2.2.2.1 bt284.2.2.2.2.2.2.2.2.1 bt284.2.2.2.2.2.2.2.2.2.1 bt284.2.2.2.2.2.2.2.2.2.2.1 bt284.2.2.2.2.2.2.2.2.2.2.2.1 bt284.2.2.2.2.2.2.2.2.2.2.2.2.1 bt284.2.2.2.2.2.2.2.2.2.2.2.2.2.1 bt284.2.2.2.2.2.2.2.2.2.2.2.2.2.2.1)) else (intrusionlaw11_awake.j0 k bt282.1 bt337.1 true bt284.1 bt284.2.1 bt284.2.2.1 bt284.2.2.2.1 bt284.2.2.2.2.1 bt284.2.2.2.2.2.1 bt284.2.2.2.2.2.2.1 bt284.2.2.2.2.2.2.2.1 bt284.2.2.2.2.2.2.2.2.1 bt284.2.2.2.2.2.2.2.2.2.1 bt284.2.2.2.2.2.2.2.2.2.2.1 bt284.2.2.2.2.2.2.2.2.2.2.2.1 bt284.2.2.2.2.2.2.2.2.2.2.2.2.1 bt284.2.2.2.2.2.2.2.2.2.2.2.2.2.1 bt284.2.2.2.2.2.2.2.2.2.2.2.2.2.2.1)) else (intrusionlaw11_awake.j0 k bt282.1 bt337.1 true bt284.1 bt284.2.1 bt284.2.2.1 bt284.2.2.2.1 bt284.2.2.2.2.1 bt284.2.2.2.2.2.1 bt284.2.2.2.2.2.2.1 bt284.2.2.2.2.2.2.2.1 bt284.2.2.2.2.2.2.2.2.1 bt284.2.2.2.2.2.2.2.2.2.1 bt284.2.2.2.2.2.2.2.2.2.2.1 bt284.2.2.2.2.2.2.2.2.2.2.2.1 bt284.2.2.2.2.2.2.2.2.2.2.2.2.1 bt284.2.2.2.2.2.2.2.2.2.2.2.2.2.1 bt284.2.2.2.2.2.2.2.2.2.2.2.2.2.2.1)) else (intrusionlaw11_awake.j0 k bt282.1 bt337.1 true bt284.1 bt284.2.1 bt284.2.2.1 bt284.2.2.2.1 bt284.2.2.2.2.1 bt284.2.2.2.2.2.1 bt284.2.2.2.2.2.2.1 bt284.2.2.2.2.2.2.2.1 bt284.2.2.2.2.2.2.2.2.1 bt284.2.2.2.2.2.2.2.2.2.1 bt284.2.2.2.2.2.2.2.2.2.2.1 bt284.2.2.2.2.2.2.2.2.2.2.2.1 bt284.2.2.2.2.2.2.2.2.2.2.2.2.1 bt284.2.2.2.2.2.2.2.2.2.2.2.2.2.1 bt284.2.2.2.2.2.2.2.2.2.2.2.2.2.2.1)))))))) = some r := h
 clear h
 replace H := bS H
 obtain ⟨⟨t265, t266, t267, t268, t269, t270, t271, t272, t273, t274, t275, t276, t277, t278, t281⟩, A1, H⟩ := H
 try dsimp -simprocs only at H
 replace H := bS H
 obtain ⟨⟨t282, t283⟩, A2, H⟩ := H
 try dsimp -simprocs only at H
 replace H := bS H
 obtain ⟨⟨t284, t285, t286, t287, t288, t289, t290, t291, t292, t293, t294, t295, t296, t297, t300, t301⟩, A3, H⟩ := H
 try dsimp -simprocs only at H
 replace H := bS H
 obtain ⟨⟨t303, t304, t305, t306, t307, t308, t309, t310, t311, t312, t313, t314, t315, t316, t319⟩, A4, H⟩ := H
 try dsimp -simprocs only at H
 replace H := bS H
 obtain ⟨⟨t320, t321, t322, t323, t324, t325, t326, t327, t328, t329, t330, t331, t332, t333, t336⟩, A5, H⟩ := H
 try dsimp -simprocs only at H
 replace H := bS H
 obtain ⟨⟨t337, t340⟩, A6, H⟩ := H
 try dsimp -simprocs only at H
 have HC7 := As H
 clear H
 have hfd0 : ∀ (w : World) (z0 z1 z2 z3 z4 z5 z6 z7 z8 z9 z10 z11 z12 z13 z14 : Value), (Instr.field 28 (.agg #[z0, z1, z2, z3, z4, z5, z6, z7, z8, z9, z10, z11, z12, z13, z14]) 7).run Try.prog w = .ok (.agg #[z7, z8, z9]) w := fun _ _ _ _ _ _ _ _ _ _ _ _ _ _ _ _ => by kernel_rfl
 have hfd1 : ∀ (w : World) (z0 z1 z2 z3 z4 z5 z6 z7 z8 z9 z10 z11 z12 z13 z14 : Value), (Instr.field 28 (.agg #[z0, z1, z2, z3, z4, z5, z6, z7, z8, z9, z10, z11, z12, z13, z14]) 8).run Try.prog w = .ok (.agg #[z10, z11, z12]) w := fun _ _ _ _ _ _ _ _ _ _ _ _ _ _ _ _ => by kernel_rfl
 go_enter Try.func10, Try.ntmps10
 go_upto_region 4 with (first | ((with_reducible refine gate_callee (f := 24) rfl ?_); refine goesL_ (some 8) rfl rfl Try.func24 (by kernel_rfl) rfl #[] rfl kA ?_; (with_reducible refine (intrusionlaw11_example.calls  t265 t266 t267 t268 t269 t270 t271 t272 t273 t274 t275 t276 t277 t278 t281 _ A1.out).mono ?_); rintro e w8 ⟨v279, rfl, ho0, hb⟩; refine ⟨_, rfl, ?_⟩; have HO280 := As (Kd.R_lower ho0 (below_size (kB HB.out))); replace HB := As (below_step (kB HB.out) hb); (try clear hb); (try clear ho0); obtain ⟨Ao9, co9, eo9⟩ := Kd.R_slice HO280.out; subst eo9) | ((with_reducible refine gate_callee (f := 15) rfl ?_); refine goesL_ (some 9) rfl rfl Try.func15 (by kernel_rfl) rfl #[.agg #[.int .i64 t265, .int .i64 t266, .int .i64 t267, .int .i64 t268, .bool t269, .bool t270, .int .i64 t271, .bool t272, .int .u64 t273, .int .u64 t274, .bool t275, .int .u64 t276, .int .u64 t277, .slice Ao9 t278.length co9, .string t281]] rfl kA ?_; (with_reducible refine (ipv4_Encode.calls k t265 t266 t267 t268 t269 t270 t271 t272 t273 t274 t275 t276 t277 _ _ t278 t281 t282 t283 _ ?side1 ?side2 A2.out).mono ?_); (case side1 => repeat (first | exact (Kd.R_reads' HO280.out).2.2 | (with_reducible refine Kd.C_alloc ?_ _) | (with_reducible refine Kd.C_drewN ?_ _) | (with_reducible refine Kd.C_drew ?_))); (case side2 => exact (Kd.R_reads' HO280.out).2.1); rintro e w10 ⟨rfl, hb⟩; refine ⟨_, rfl, ?_⟩; replace HO280 := As (Kd.R_below (kR HO280.out) hb); replace HB := As (below_step (kB HB.out) hb); (try clear hb)) | ((with_reducible refine gate_callee (f := 11) rfl ?_); refine goesL_ (some 14) rfl rfl Try.func11 (by kernel_rfl) rfl #[.string t282] rfl kA ?_; (with_reducible refine (ipv4_Decode.calls k t282 t284 t285 t286 t287 t288 t289 t290 t291 t292 t293 t294 t295 t296 t297 t300 t301 _ A3.out).mono ?_); rintro e w11 ⟨v298, rfl, ho0, hb⟩; refine ⟨_, rfl, ?_⟩; have HO299 := As (Kd.R_lower (Kd.R_new' ho0 (Kd.R_lt (kR HO280.out))) (below_size (kB HB.out))); replace HO280 := As (Kd.R_elder' (kR HO280.out) (Kd.R_base ho0) hb); replace HB := As (below_step (kB HB.out) hb); (try clear hb); (try clear ho0)) | ((with_reducible refine gate_dst (N := 3) rfl ?_); (try (refine gate_guard (by rfl) ?_; dsimp only)); refine box_event rfl (N := 3) rfl (cs := #[.int .i64 0, .int .i64 0, .int .i64 0, .int .i64 0, .bool false, .bool false, .int .i64 0, .bool false, .int .u64 0, .int .u64 0, .bool false, .int .u64 0, .int .u64 0, .slice none 0 0, .string (⟨#[]⟩ : ByteArray)]) (t := 28) kG ?_; intro gb302 hg w12 hbox hb; replace HO280 := As (Kd.R_below (kR HO280.out) hb); replace HO299 := As (Kd.R_below (kR HO299.out) hb); have BK302 := As (hbox); have GW302 := As (gS hg (below_size (kB HB.out))); have GE302 := As (gS hg (below_size (kB HB.out))); replace HB := As (below_step (kB HB.out) hb); clear hb hbox hg; obtain ⟨Ao13, co13, eo13⟩ := Kd.R_slice HO299.out; subst eo13) | ((with_reducible refine gate_store (t := 28) (p := 3) rfl ?_); refine store_rowev_15 gb302 (.int .i64 t284) (.int .i64 t285) (.int .i64 t286) (.int .i64 t287) (.bool t288) (.bool t289) (.int .i64 t290) (.bool t291) (.int .u64 t292) (.int .u64 t293) (.bool t294) (.int .u64 t295) (.int .u64 t296) (.slice Ao13 t297.length co13) (.string t300) rfl (t := 28) (p := 3) (v := _) rfl rfl rfl rfl (t' := 28) (kb BK302.out) (by rfl) (by kernel_rfl) (by rfl) ?_) | ((with_reducible refine gate_callee (f := 24) rfl ?_); refine goesL_ (some 18) rfl rfl Try.func24 (by kernel_rfl) rfl #[] rfl kA ?_; (with_reducible refine (intrusionlaw11_example.calls  t303 t304 t305 t306 t307 t308 t309 t310 t311 t312 t313 t314 t315 t316 t319 _ A4.out).mono ?_); rintro e w14 ⟨v317, rfl, ho0, hb⟩; refine ⟨_, rfl, ?_⟩; have HO318 := As (Kd.R_lower (Kd.R_new' (Kd.R_new' ho0 (Kd.R_lt (by refine kR ?_; exact (Kd.R_mono (Kd.R_puts_0_15 gb302 (.int .i64 t284) (.int .i64 t285) (.int .i64 t286) (.int .i64 t287) (.bool t288) (.bool t289) (.int .i64 t290) (.bool t291) (.int .u64 t292) (.int .u64 t293) (.bool t294) (.int .u64 t295) (.int .u64 t296) (.slice Ao13 t297.length co13) (.string t300) (Kd.R_types HO280.out BK302.out (by decide)) (fun _ hk => hk.2)) (fun _ h_ => h_.1))))) (Kd.R_lt (by refine kR ?_; exact (Kd.R_mono (Kd.R_puts_0_15 gb302 (.int .i64 t284) (.int .i64 t285) (.int .i64 t286) (.int .i64 t287) (.bool t288) (.bool t289) (.int .i64 t290) (.bool t291) (.int .u64 t292) (.int .u64 t293) (.bool t294) (.int .u64 t295) (.int .u64 t296) (.slice Ao13 t297.length co13) (.string t300) (Kd.R_types HO299.out BK302.out (by decide)) (fun _ hk => hk.2)) (fun _ h_ => h_.1))))) (below_size (kB1 HB.out GE302.out))); replace HO280 := As (Kd.R_elder' (by refine kR ?_; exact (Kd.R_mono (Kd.R_puts_0_15 gb302 (.int .i64 t284) (.int .i64 t285) (.int .i64 t286) (.int .i64 t287) (.bool t288) (.bool t289) (.int .i64 t290) (.bool t291) (.int .u64 t292) (.int .u64 t293) (.bool t294) (.int .u64 t295) (.int .u64 t296) (.slice Ao13 t297.length co13) (.string t300) (Kd.R_types HO280.out BK302.out (by decide)) (fun _ hk => hk.2)) (fun _ h_ => h_.1))) (Kd.R_base ho0) hb); replace HO299 := As (Kd.R_elder' (by refine kR ?_; exact (Kd.R_mono (Kd.R_puts_0_15 gb302 (.int .i64 t284) (.int .i64 t285) (.int .i64 t286) (.int .i64 t287) (.bool t288) (.bool t289) (.int .i64 t290) (.bool t291) (.int .u64 t292) (.int .u64 t293) (.bool t294) (.int .u64 t295) (.int .u64 t296) (.slice Ao13 t297.length co13) (.string t300) (Kd.R_types HO299.out BK302.out (by decide)) (fun _ hk => hk.2)) (fun _ h_ => h_.1))) (Kd.R_base ho0) hb); replace BK302 := As (blk_below (g := gb302) (o := .cells #[.int .i64 t284, .int .i64 t285, .int .i64 t286, .int .i64 t287, .bool t288, .bool t289, .int .i64 t290, .bool t291, .int .u64 t292, .int .u64 t293, .bool t294, .int .u64 t295, .int .u64 t296, .slice Ao13 t297.length co13, .string t300] 28 (0, 0)) (by refine kb ?_; exact blk_all_15 (kb BK302.out) (by rfl)) hb); replace HB := As (below_step (kB1 HB.out GE302.out) hb); (try clear hb); (try clear hk); (try clear ho0)) | ((with_reducible refine gate_callee (f := 24) rfl ?_); refine goesL_ (some 20) rfl rfl Try.func24 (by kernel_rfl) rfl #[] rfl kA ?_; (with_reducible refine (intrusionlaw11_example.calls  t320 t321 t322 t323 t324 t325 t326 t327 t328 t329 t330 t331 t332 t333 t336 _ A5.out).mono ?_); rintro e w15 ⟨v334, rfl, ho0, hb⟩; refine ⟨_, rfl, ?_⟩; have HO335 := As (Kd.R_lower (Kd.R_new' (Kd.R_new' (Kd.R_new' ho0 (Kd.R_lt (kR HO280.out))) (Kd.R_lt (kR HO299.out))) (Kd.R_lt (kR HO318.out))) (below_size (kB1 HB.out GE302.out))); replace HO280 := As (Kd.R_elder' (kR HO280.out) (Kd.R_base ho0) hb); replace HO299 := As (Kd.R_elder' (kR HO299.out) (Kd.R_base ho0) hb); replace HO318 := As (Kd.R_elder' (kR HO318.out) (Kd.R_base ho0) hb); replace BK302 := As (blk_below (kb BK302.out) hb); replace HB := As (below_step (kB1 HB.out GE302.out) hb); (try clear hb); (try clear ho0)) | ((with_reducible refine gate_callee (f := 21) rfl ?_); refine goesL_ (some 23) rfl rfl Try.func21 (by kernel_rfl) rfl #[.agg #[.int .i64 0, .int .i64 0, .int .i64 0, .int .i64 0, .bool false, .bool false, .int .i64 0, .bool t310, .int .u64 t311, .int .u64 t312, .bool t330, .int .u64 t331, .int .u64 t332, .slice none 0 0, .string (⟨#[97, 97, 97, 97, 97, 97, 97, 97, 98, 98, 98, 98, 98, 98, 98, 98, 99, 99, 99, 99]⟩ : ByteArray)], .int .i64 8] rfl kA ?_; (refine (ipv4_Split.calls k 0 0 0 0 false false 0 t310 t311 t312 t330 t331 t332 _ _ ([] : List (S50)) (⟨#[97, 97, 97, 97, 97, 97, 97, 97, 98, 98, 98, 98, 98, 98, 98, 98, 99, 99, 99, 99]⟩ : ByteArray) 8 t337 t340 _ ?side1 ?side2 A6.out).mono ?_); (case side1 => exact Kd.C_nil _ _); (case side2 => exact Nat.le_refl _); rintro e w16 ⟨v338, rfl, ho0, hb⟩; refine ⟨_, rfl, ?_⟩; have HO339 := As (Kd.S_lower (Kd.S_newB (Kd.S_new' (Kd.S_new' (Kd.S_new' (Kd.S_new' ho0 (Kd.R_lt (kR HO280.out))) (Kd.R_lt (kR HO299.out))) (Kd.R_lt (kR HO318.out))) (Kd.R_lt (kR HO335.out))) (kb BK302.out)) (below_size (kB1 HB.out GE302.out))); replace HO280 := As (Kd.R_below (kR HO280.out) hb); replace HO299 := As (Kd.R_below (kR HO299.out) hb); replace HO318 := As (Kd.R_below (kR HO318.out) hb); replace HO335 := As (Kd.R_below (kR HO335.out) hb); replace BK302 := As (blk_below (kb BK302.out) hb); replace HB := As (below_step (kB1 HB.out GE302.out) hb); (try clear hb); (try clear ho0)))
 (try simp only [Act.put, sA, sZ, sS])
 go_cut [45] (fun v45 wc => ∃ (kq : Nat) (x45_6 : Bool), v45 = .bool x45_6 ∧ Aside0 (intrusionlaw11_awake.j0 kq t282 t337 x45_6 t284 t285 t286 t287 t288 t289 t290 t291 t292 t293 t294 t295 t296 t297 t300 = some r) ∧ Aside0 (kq ≤ k) ∧ Aside0 (Kd.S k28 28 wc w.heap.size (fun k_ => some k_ ≠ ((.slice Ao13 t297.length co13) : Value).ownBlock ∧ k_ ≠ gb302) v338 t337) ∧ Aside0 (Kd.R k50 50 wc w.heap.size (fun _ => True) (.slice Ao13 t297.length co13) t297) ∧ Aside0 (wc.heap[gb302]? = some (.cells #[.int .i64 t284, .int .i64 t285, .int .i64 t286, .int .i64 t287, .bool t288, .bool t289, .int .i64 t290, .bool t291, .int .u64 t292, .int .u64 t293, .bool t294, .int .u64 t295, .int .u64 t296, (.slice Ao13 t297.length co13), .string t300] 28 (0, 0))) ∧ Aside0 (Below w.heap.size w wc))
 case first =>
  have H := HC7.out
  clear HC7
  by_cases c17 : t283 = 0
  ·rw [if_pos c17] at H
   have c17b0 : (t283 == 0) = true := beq_iff_eq.mpr c17
   have c17b1 : (t283 != 0) = false := bne_eq_false_iff_eq.mpr c17
   clear c17
   (first | rw [c17b0] | (simp only [i64_w, i32_w]; rw [c17b0]) | skip)
   by_cases c18 : t301 = 0
   ·rw [if_pos c18] at H
    have c18b0 : (t301 == 0) = true := beq_iff_eq.mpr c18
    have c18b1 : (t301 != 0) = false := bne_eq_false_iff_eq.mpr c18
    clear c18
    by_cases c19 : t340 = 0
    ·rw [if_pos c19] at H
     have c19b0 : (t340 == 0) = true := beq_iff_eq.mpr c19
     have c19b1 : (t340 != 0) = false := bne_eq_false_iff_eq.mpr c19
     clear c19
     by_cases c20 : (t282.size : Int) = 22
     ·rw [if_pos c20] at H
      have c20b0 : ((t282.size : Int) == 22) = true := beq_iff_eq.mpr c20
      have c20b1 : ((t282.size : Int) != 22) = false := bne_eq_false_iff_eq.mpr c20
      clear c20
      have H' := As H
      clear H
      obtain ⟨Ao21, co21, eo21⟩ := Kd.S_slice HO339.out
      subst eo21
      go_wp2
      go_meet
      case rel => exact ⟨_, (((t337.length : Int) != 3)), kS, H', ⟨by first | omega | exact Nat.le_refl _⟩, ⟨by (with_reducible repeat (first | apply Kd.S_alloc | apply Kd.S_drewN | apply Kd.S_drew)); exact Kd.S_mono HO339.out (fun _ hk => ⟨hk.1.1.1.2, hk.2⟩)⟩, ⟨by (with_reducible repeat (first | apply Kd.R_alloc | apply Kd.R_drewN | apply Kd.R_drew)); exact Kd.R_mono HO299.out (fun _ hk => trivial)⟩, ⟨kb BK302.out⟩, ⟨kB1 HB.out GE302.out⟩⟩
     rw [if_neg c20] at H
     have c20b0 : ((t282.size : Int) == 22) = false := beq_eq_false_iff_ne.mpr c20
     have c20b1 : ((t282.size : Int) != 22) = true := bne_iff_ne.mpr c20
     have H' := As H
     clear H
     go_wp2
     go_meet
     case rel => exact ⟨_, (true), kS, H', ⟨by first | omega | exact Nat.le_refl _⟩, ⟨by (with_reducible repeat (first | apply Kd.S_alloc | apply Kd.S_drewN | apply Kd.S_drew)); exact Kd.S_mono HO339.out (fun _ hk => ⟨hk.1.1.1.2, hk.2⟩)⟩, ⟨by (with_reducible repeat (first | apply Kd.R_alloc | apply Kd.R_drewN | apply Kd.R_drew)); exact Kd.R_mono HO299.out (fun _ hk => trivial)⟩, ⟨kb BK302.out⟩, ⟨kB1 HB.out GE302.out⟩⟩
    rw [if_neg c19] at H
    have c19b0 : (t340 == 0) = false := beq_eq_false_iff_ne.mpr c19
    have c19b1 : (t340 != 0) = true := bne_iff_ne.mpr c19
    have H' := As H
    clear H
    go_wp2
    go_meet
    case rel => exact ⟨_, (true), kS, H', ⟨by first | omega | exact Nat.le_refl _⟩, ⟨by (with_reducible repeat (first | apply Kd.S_alloc | apply Kd.S_drewN | apply Kd.S_drew)); exact Kd.S_mono HO339.out (fun _ hk => ⟨hk.1.1.1.2, hk.2⟩)⟩, ⟨by (with_reducible repeat (first | apply Kd.R_alloc | apply Kd.R_drewN | apply Kd.R_drew)); exact Kd.R_mono HO299.out (fun _ hk => trivial)⟩, ⟨kb BK302.out⟩, ⟨kB1 HB.out GE302.out⟩⟩
   rw [if_neg c18] at H
   have c18b0 : (t301 == 0) = false := beq_eq_false_iff_ne.mpr c18
   have c18b1 : (t301 != 0) = true := bne_iff_ne.mpr c18
   have H' := As H
   clear H
   go_wp2
   go_meet
   case rel => exact ⟨_, (true), kS, H', ⟨by first | omega | exact Nat.le_refl _⟩, ⟨by (with_reducible repeat (first | apply Kd.S_alloc | apply Kd.S_drewN | apply Kd.S_drew)); exact Kd.S_mono HO339.out (fun _ hk => ⟨hk.1.1.1.2, hk.2⟩)⟩, ⟨by (with_reducible repeat (first | apply Kd.R_alloc | apply Kd.R_drewN | apply Kd.R_drew)); exact Kd.R_mono HO299.out (fun _ hk => trivial)⟩, ⟨kb BK302.out⟩, ⟨kB1 HB.out GE302.out⟩⟩
  rw [if_neg c17] at H
  have c17b0 : (t283 == 0) = false := beq_eq_false_iff_ne.mpr c17
  have c17b1 : (t283 != 0) = true := bne_iff_ne.mpr c17
  (first | rw [c17b0] | (simp only [i64_w, i32_w]; rw [c17b0]) | skip)
  have H' := As H
  clear H
  go_wp2
  go_meet
  case rel => exact ⟨_, (true), kS, H', ⟨by first | omega | exact Nat.le_refl _⟩, ⟨by (with_reducible repeat (first | apply Kd.S_alloc | apply Kd.S_drewN | apply Kd.S_drew)); exact Kd.S_mono HO339.out (fun _ hk => ⟨hk.1.1.1.2, hk.2⟩)⟩, ⟨by (with_reducible repeat (first | apply Kd.R_alloc | apply Kd.R_drewN | apply Kd.R_drew)); exact Kd.R_mono HO299.out (fun _ hk => trivial)⟩, ⟨kb BK302.out⟩, ⟨kB1 HB.out GE302.out⟩⟩
 clear HC7
 obtain ⟨kq, x45_6, rfl, HA, HJ6, HO_5, HO_303013, BK302, HB⟩ := hcut
 cases kq with
 | zero => exact absurd HA.out (by simp [intrusionlaw11_awake.j0])
 | succ kj6 =>
  have H := HA.out
  clear HA
  simp only [intrusionlaw11_awake.j0] at H
  by_cases c22 : x45_6 = true
  ·subst c22
   rw [if_pos rfl] at H
   exact absurd H (by simp)
  replace c22 := Bool.eq_false_iff.mpr c22
  subst c22
  rw [if_neg (show ¬ (false = true) by decide)] at H
  replace H := iS H
  obtain ⟨c23, H⟩ := H
  have c23b0 := eq_true c23
  have c23b1 := decide_eq_true c23
  clear c23
  replace H := iS H
  obtain ⟨c24, H⟩ := H
  have c24b0 := eq_true c24
  have c24b1 := decide_eq_true c24
  clear c24
  by_cases c25 : (t282.extract 0 12).toList = ([69, 0, 0, 22, 0, 0, 0, 0, 64, 17, 102, 213] : List UInt8)
  ·rw [if_pos c25] at H
   have c25b0 : ((t282.extract 0 12).toList == ([69, 0, 0, 22, 0, 0, 0, 0, 64, 17, 102, 213] : List UInt8)) = true := beq_iff_eq.mpr c25
   have c25b1 : ((t282.extract 0 12).toList != ([69, 0, 0, 22, 0, 0, 0, 0, 64, 17, 102, 213] : List UInt8)) = false := bne_eq_false_iff_eq.mpr c25
   clear c25
   replace H := bS H
   obtain ⟨⟨t341, t342, t343, t344, t345, t346, t347, t348, t349, t350, t351, t352, t353, t354, t357⟩, A26, H⟩ := H
   try dsimp -simprocs only at H
   replace H := bS H
   obtain ⟨t358, A27, H⟩ := H
   by_cases c28 : t358 = true
   ·subst c28
    rw [if_pos rfl] at H
    replace H := iS H
    obtain ⟨c29, H⟩ := H
    have c29b0 := decide_eq_true c29
    have c29b1 : decide (1 < t337.length) = true := decide_eq_true (by omega)
    clear c29
    by_cases c30 : ((rd_T28 t337 1).f6) = 8
    ·rw [if_pos c30] at H
     have c30b0 : (((rd_T28 t337 1).f6) == 8) = true := beq_iff_eq.mpr c30
     have c30b1 : (((rd_T28 t337 1).f6) != 8) = false := bne_eq_false_iff_eq.mpr c30
     clear c30
     replace H := iS H
     obtain ⟨c31, H⟩ := H
     have c31b0 := decide_eq_true c31
     have c31b1 : decide (2 < t337.length) = true := decide_eq_true (by omega)
     clear c31
     by_cases c32 : ((rd_T28 t337 2).f6) = 16
     ·rw [if_pos c32] at H
      have c32b0 : (((rd_T28 t337 2).f6) == 16) = true := beq_iff_eq.mpr c32
      have c32b1 : (((rd_T28 t337 2).f6) != 16) = false := bne_eq_false_iff_eq.mpr c32
      clear c32
      by_cases c33 : ((rd_T28 t337 2).f10).toList = ([99, 99, 99, 99] : List UInt8)
      ·rw [if_pos c33] at H
       have c33b0 : (((rd_T28 t337 2).f10).toList == ([99, 99, 99, 99] : List UInt8)) = true := beq_iff_eq.mpr c33
       have c33b1 : (((rd_T28 t337 2).f10).toList != ([99, 99, 99, 99] : List UInt8)) = false := bne_eq_false_iff_eq.mpr c33
       clear c33
       obtain ⟨bq34, hbq34⟩ : ∃ b_ : Bool, b_ = ((rd_T28 t337 1).f5) := ⟨_, rfl⟩
       replace H : (if bq34 = true then (if ((rd_T28 t337 2).f5 = true) then (none) else ((ipv4_Fragment.f ((rd_T28 t337 1).f0) ((rd_T28 t337 1).f1) ((rd_T28 t337 1).f2) ((rd_T28 t337 1).f3) ((rd_T28 t337 1).f4) (bq34) ((rd_T28 t337 1).f6) ((rd_T28 t337 1).f7.f0) ((rd_T28 t337 1).f7.f1) ((rd_T28 t337 1).f7.f2) ((rd_T28 t337 1).f8.f0) ((rd_T28 t337 1).f8.f1) ((rd_T28 t337 1).f8.f2) ((rd_T28 t337 1).f9) ((rd_T28 t337 1).f10)).bind fun bt365 => (if bt365.2.2.2.2.2.2.2.2.2.2.2.toList = ([98, 98, 98, 98, 98, 98, 98, 98] : List UInt8) then ((ipv4_Routed.f kj6 0 0 0 0 false false 0 false 0 0 false 0 0 (([(⟨131, (⟨#[]⟩ : ByteArray)⟩ : S50)] : List (S50))) (⟨#[]⟩ : ByteArray)).bind fun t380 => (some t380)) else (none)))) else (none)) = some r := by rw [← hbq34] at H; exact H
       have Nbq34 := As hbq34
       clear hbq34
       by_cases c35 : bq34 = true
       ·subst c35
        rw [if_pos rfl] at H
        obtain ⟨bq36, hbq36⟩ : ∃ b_ : Bool, b_ = ((rd_T28 t337 2).f5) := ⟨_, rfl⟩
        replace H : (if (bq36 = true) then (none) else ((ipv4_Fragment.f ((rd_T28 t337 1).f0) ((rd_T28 t337 1).f1) ((rd_T28 t337 1).f2) ((rd_T28 t337 1).f3) ((rd_T28 t337 1).f4) (true) ((rd_T28 t337 1).f6) ((rd_T28 t337 1).f7.f0) ((rd_T28 t337 1).f7.f1) ((rd_T28 t337 1).f7.f2) ((rd_T28 t337 1).f8.f0) ((rd_T28 t337 1).f8.f1) ((rd_T28 t337 1).f8.f2) ((rd_T28 t337 1).f9) ((rd_T28 t337 1).f10)).bind fun bt365 => (if bt365.2.2.2.2.2.2.2.2.2.2.2.toList = ([98, 98, 98, 98, 98, 98, 98, 98] : List UInt8) then ((ipv4_Routed.f kj6 0 0 0 0 false false 0 false 0 0 false 0 0 (([(⟨131, (⟨#[]⟩ : ByteArray)⟩ : S50)] : List (S50))) (⟨#[]⟩ : ByteArray)).bind fun t380 => (some t380)) else (none)))) = some r := by rw [← hbq36] at H; exact H
        have Nbq36 := As hbq36
        clear hbq36
        by_cases c37 : (bq36 = true)
        ·subst c37
         rw [if_pos rfl] at H
         exact absurd H (by simp)
        replace c37 := Bool.eq_false_iff.mpr c37
        subst c37
        rw [if_neg (show ¬ (false = true) by decide)] at H
        replace H := bS H
        obtain ⟨⟨t365, t366, t367, t368, t369, t370, t371, t372, t373, t374, t375, t376⟩, A38, H⟩ := H
        try dsimp -simprocs only at H
        by_cases c39 : t376.toList = ([98, 98, 98, 98, 98, 98, 98, 98] : List UInt8)
        ·rw [if_pos c39] at H
         have c39b0 : (t376.toList == ([98, 98, 98, 98, 98, 98, 98, 98] : List UInt8)) = true := beq_iff_eq.mpr c39
         have c39b1 : (t376.toList != ([98, 98, 98, 98, 98, 98, 98, 98] : List UInt8)) = false := bne_eq_false_iff_eq.mpr c39
         clear c39
         obtain ⟨y377, hy377⟩ : ∃ y_ : List (S50), y_ = (([(⟨131, (⟨#[]⟩ : ByteArray)⟩ : S50)] : List (S50))) := ⟨_, rfl⟩
         replace H : ((ipv4_Routed.f kj6 0 0 0 0 false false 0 false 0 0 false 0 0 y377 (⟨#[]⟩ : ByteArray)).bind fun t380 => (some t380)) = some r := by first | (rw [hy377]; with_reducible exact H) | (have H2_ := (Option.bind_some _ _).symm.trans H; rw [hy377]; with_reducible exact H2_) | (have H2_ := (Option.bind_some _ _).symm.trans H; with_reducible exact H2_) | with_reducible exact H | (rw [hy377]; exact H) | exact H
         have Ny377 := As hy377
         clear hy377
         replace H := bS H
         obtain ⟨t380, A40, H⟩ := H
         obtain rfl := Option.some.inj H
         obtain ⟨Ao41, co41, eo41⟩ := Kd.S_slice HO_5.out
         subst eo41
         try go_wp2
         replace HO_5 := As (Kd.S_drew HO_5.out)
         replace HO_303013 := As (Kd.R_drew HO_303013.out)
         replace BK302 := As (blk_drew BK302.out)
         replace HB := As (below_drew1 HB.out)
         have p359 : 0 ≤ (1 : Int) := (by omega)
         have q359 : 1 < (t337.length : Int) := of_decide_eq_true (by first | (with_reducible assumption) | assumption)
         obtain ⟨ad359, A359_13, c359_13, e359, hx359_0, hx359_1, hx359_2, hx359_3, hx359_4, hx359_5, hx359_6, hx359_7, hx359_8, hx359_9, hx359_10, hx359_11, hx359_12, hx359_13, hx359_14, hl359_13, hi359_13⟩ := at_T28 (Kd.S_reads' HO_5.out).2.2 1 p359 q359
         (try rw [← Nbq34.out] at hx359_4)
         (try rw [← Nbq36.out] at hx359_4)
         (try rw [← Nbq34.out] at hx359_5)
         (try rw [← Nbq36.out] at hx359_5)
         (try rw [← Nbq34.out] at hx359_7)
         (try rw [← Nbq36.out] at hx359_7)
         (try rw [← Nbq34.out] at hx359_10)
         (try rw [← Nbq36.out] at hx359_10)
         cases e359
         obtain ⟨ce359, hce359, hMe359, hcc359⟩ := Kd.S_get HO_5.out z28 1 p359 (by first | exact q359 | exact of_decide_eq_true (by first | (with_reducible assumption) | assumption) | (have e_ := (Kd.S_reads' HO_5.out).1; omega))
         obtain ⟨ve359_13, rfl, ge359_13⟩ := k28_openM hMe359
         have hv359_13 := hcc359 13 _ rfl
         rw [add_field _ _ 13 (by omega)] at hv359_13
         replace hv359_13 := Option.some.inj (hv359_13.symm.trans hx359_13)
         rw [hv359_13] at ge359_13
         have HL359_13 := As (show Kd.R k50 50 _ _ _ _ ((rd_T28 t337 1).f9) from ge359_13)
         clear hv359_13 ge359_13
         clear hcc359 hce359
         (try simp only [show (1 : Int).toNat = 1 from rfl, Nat.reduceMul, Nat.reduceEqDiff, Go.Addr.add, ↓reduceIte] at hx359_0 hx359_1 hx359_2 hx359_3 hx359_4 hx359_5 hx359_6 hx359_7 hx359_8 hx359_9 hx359_10 hx359_11 hx359_12 hx359_13 hx359_14)
         have qi359 : (1 < t337.length) = True := eq_true (by omega)
         (try rw [show ((1 : Int)).toNat = 1 from rfl] at hx359_0)
         (try rw [show 1 * 15 = 15 from rfl] at hx359_0)
         (try rw [show ((1 : Int)).toNat = 1 from rfl] at hx359_1)
         (try rw [show 1 * 15 = 15 from rfl] at hx359_1)
         (try rw [show ((1 : Int)).toNat = 1 from rfl] at hx359_2)
         (try rw [show 1 * 15 = 15 from rfl] at hx359_2)
         (try rw [show ((1 : Int)).toNat = 1 from rfl] at hx359_3)
         (try rw [show 1 * 15 = 15 from rfl] at hx359_3)
         (try rw [show ((1 : Int)).toNat = 1 from rfl] at hx359_4)
         (try rw [show 1 * 15 = 15 from rfl] at hx359_4)
         (try rw [show ((1 : Int)).toNat = 1 from rfl] at hx359_5)
         (try rw [show 1 * 15 = 15 from rfl] at hx359_5)
         (try rw [show ((1 : Int)).toNat = 1 from rfl] at hx359_6)
         (try rw [show 1 * 15 = 15 from rfl] at hx359_6)
         (try rw [show ((1 : Int)).toNat = 1 from rfl] at hx359_7)
         (try rw [show 1 * 15 = 15 from rfl] at hx359_7)
         (try rw [show ((1 : Int)).toNat = 1 from rfl] at hx359_8)
         (try rw [show 1 * 15 = 15 from rfl] at hx359_8)
         (try rw [show ((1 : Int)).toNat = 1 from rfl] at hx359_9)
         (try rw [show 1 * 15 = 15 from rfl] at hx359_9)
         (try rw [show ((1 : Int)).toNat = 1 from rfl] at hx359_10)
         (try rw [show 1 * 15 = 15 from rfl] at hx359_10)
         (try rw [show ((1 : Int)).toNat = 1 from rfl] at hx359_11)
         (try rw [show 1 * 15 = 15 from rfl] at hx359_11)
         (try rw [show ((1 : Int)).toNat = 1 from rfl] at hx359_12)
         (try rw [show 1 * 15 = 15 from rfl] at hx359_12)
         (try rw [show ((1 : Int)).toNat = 1 from rfl] at hx359_13)
         (try rw [show 1 * 15 = 15 from rfl] at hx359_13)
         (try rw [show ((1 : Int)).toNat = 1 from rfl] at hx359_14)
         (try rw [show 1 * 15 = 15 from rfl] at hx359_14)
         have HR359_13 := As hi359_13
         have HC359_13 := As hl359_13
         clear hi359_13 hl359_13
         replace p359 := eq_true p359
         replace q359 := eq_true q359
         have p360 : 0 ≤ (2 : Int) := (by omega)
         have q360 : 2 < (t337.length : Int) := of_decide_eq_true (by first | (with_reducible assumption) | assumption)
         obtain ⟨ad360, A360_13, c360_13, e360, hx360_0, hx360_1, hx360_2, hx360_3, hx360_4, hx360_5, hx360_6, hx360_7, hx360_8, hx360_9, hx360_10, hx360_11, hx360_12, hx360_13, hx360_14, hl360_13, hi360_13⟩ := at_T28 (Kd.S_reads' HO_5.out).2.2 2 p360 q360
         (try rw [← Nbq34.out] at hx360_4)
         (try rw [← Nbq36.out] at hx360_4)
         (try rw [← Nbq34.out] at hx360_5)
         (try rw [← Nbq36.out] at hx360_5)
         (try rw [← Nbq34.out] at hx360_7)
         (try rw [← Nbq36.out] at hx360_7)
         (try rw [← Nbq34.out] at hx360_10)
         (try rw [← Nbq36.out] at hx360_10)
         obtain rfl : ad359 = ad360 := (by injection e360)
         obtain ⟨ce360, hce360, hMe360, hcc360⟩ := Kd.S_get HO_5.out z28 2 p360 (by first | exact q360 | exact of_decide_eq_true (by first | (with_reducible assumption) | assumption) | (have e_ := (Kd.S_reads' HO_5.out).1; omega))
         obtain ⟨ve360_13, rfl, ge360_13⟩ := k28_openM hMe360
         have hv360_13 := hcc360 13 _ rfl
         rw [add_field _ _ 13 (by omega)] at hv360_13
         replace hv360_13 := Option.some.inj (hv360_13.symm.trans hx360_13)
         rw [hv360_13] at ge360_13
         have HL360_13 := As (show Kd.R k50 50 _ _ _ _ ((rd_T28 t337 2).f9) from ge360_13)
         clear hv360_13 ge360_13
         clear hcc360 hce360
         (try simp only [show (2 : Int).toNat = 2 from rfl, Nat.reduceMul, Nat.reduceEqDiff, Go.Addr.add, ↓reduceIte] at hx360_0 hx360_1 hx360_2 hx360_3 hx360_4 hx360_5 hx360_6 hx360_7 hx360_8 hx360_9 hx360_10 hx360_11 hx360_12 hx360_13 hx360_14)
         have qi360 : (2 < t337.length) = True := eq_true (by omega)
         (try rw [show ((2 : Int)).toNat = 2 from rfl] at hx360_0)
         (try rw [show 2 * 15 = 30 from rfl] at hx360_0)
         (try rw [show ((2 : Int)).toNat = 2 from rfl] at hx360_1)
         (try rw [show 2 * 15 = 30 from rfl] at hx360_1)
         (try rw [show ((2 : Int)).toNat = 2 from rfl] at hx360_2)
         (try rw [show 2 * 15 = 30 from rfl] at hx360_2)
         (try rw [show ((2 : Int)).toNat = 2 from rfl] at hx360_3)
         (try rw [show 2 * 15 = 30 from rfl] at hx360_3)
         (try rw [show ((2 : Int)).toNat = 2 from rfl] at hx360_4)
         (try rw [show 2 * 15 = 30 from rfl] at hx360_4)
         (try rw [show ((2 : Int)).toNat = 2 from rfl] at hx360_5)
         (try rw [show 2 * 15 = 30 from rfl] at hx360_5)
         (try rw [show ((2 : Int)).toNat = 2 from rfl] at hx360_6)
         (try rw [show 2 * 15 = 30 from rfl] at hx360_6)
         (try rw [show ((2 : Int)).toNat = 2 from rfl] at hx360_7)
         (try rw [show 2 * 15 = 30 from rfl] at hx360_7)
         (try rw [show ((2 : Int)).toNat = 2 from rfl] at hx360_8)
         (try rw [show 2 * 15 = 30 from rfl] at hx360_8)
         (try rw [show ((2 : Int)).toNat = 2 from rfl] at hx360_9)
         (try rw [show 2 * 15 = 30 from rfl] at hx360_9)
         (try rw [show ((2 : Int)).toNat = 2 from rfl] at hx360_10)
         (try rw [show 2 * 15 = 30 from rfl] at hx360_10)
         (try rw [show ((2 : Int)).toNat = 2 from rfl] at hx360_11)
         (try rw [show 2 * 15 = 30 from rfl] at hx360_11)
         (try rw [show ((2 : Int)).toNat = 2 from rfl] at hx360_12)
         (try rw [show 2 * 15 = 30 from rfl] at hx360_12)
         (try rw [show ((2 : Int)).toNat = 2 from rfl] at hx360_13)
         (try rw [show 2 * 15 = 30 from rfl] at hx360_13)
         (try rw [show ((2 : Int)).toNat = 2 from rfl] at hx360_14)
         (try rw [show 2 * 15 = 30 from rfl] at hx360_14)
         have HR360_13 := As hi360_13
         have HC360_13 := As hl360_13
         clear hi360_13 hl360_13
         replace p360 := eq_true p360
         replace q360 := eq_true q360
         have p361 : 0 ≤ (2 : Int) := (by omega)
         have q361 : 2 < (t337.length : Int) := of_decide_eq_true (by first | (with_reducible assumption) | assumption)
         obtain ⟨ad361, A361_13, c361_13, e361, hx361_0, hx361_1, hx361_2, hx361_3, hx361_4, hx361_5, hx361_6, hx361_7, hx361_8, hx361_9, hx361_10, hx361_11, hx361_12, hx361_13, hx361_14, hl361_13, hi361_13⟩ := at_T28 (Kd.S_reads' HO_5.out).2.2 2 p361 q361
         (try rw [← Nbq34.out] at hx361_4)
         (try rw [← Nbq36.out] at hx361_4)
         (try rw [← Nbq34.out] at hx361_5)
         (try rw [← Nbq36.out] at hx361_5)
         (try rw [← Nbq34.out] at hx361_7)
         (try rw [← Nbq36.out] at hx361_7)
         (try rw [← Nbq34.out] at hx361_10)
         (try rw [← Nbq36.out] at hx361_10)
         obtain rfl : ad359 = ad361 := (by injection e361)
         obtain ⟨ce361, hce361, hMe361, hcc361⟩ := Kd.S_get HO_5.out z28 2 p361 (by first | exact q361 | exact of_decide_eq_true (by first | (with_reducible assumption) | assumption) | (have e_ := (Kd.S_reads' HO_5.out).1; omega))
         obtain ⟨ve361_13, rfl, ge361_13⟩ := k28_openM hMe361
         have hv361_13 := hcc361 13 _ rfl
         rw [add_field _ _ 13 (by omega)] at hv361_13
         replace hv361_13 := Option.some.inj (hv361_13.symm.trans hx361_13)
         rw [hv361_13] at ge361_13
         have HL361_13 := As (show Kd.R k50 50 _ _ _ _ ((rd_T28 t337 2).f9) from ge361_13)
         clear hv361_13 ge361_13
         clear hcc361 hce361
         (try simp only [show (2 : Int).toNat = 2 from rfl, Nat.reduceMul, Nat.reduceEqDiff, Go.Addr.add, ↓reduceIte] at hx361_0 hx361_1 hx361_2 hx361_3 hx361_4 hx361_5 hx361_6 hx361_7 hx361_8 hx361_9 hx361_10 hx361_11 hx361_12 hx361_13 hx361_14)
         have qi361 : (2 < t337.length) = True := eq_true (by omega)
         (try rw [show ((2 : Int)).toNat = 2 from rfl] at hx361_0)
         (try rw [show 2 * 15 = 30 from rfl] at hx361_0)
         (try rw [show ((2 : Int)).toNat = 2 from rfl] at hx361_1)
         (try rw [show 2 * 15 = 30 from rfl] at hx361_1)
         (try rw [show ((2 : Int)).toNat = 2 from rfl] at hx361_2)
         (try rw [show 2 * 15 = 30 from rfl] at hx361_2)
         (try rw [show ((2 : Int)).toNat = 2 from rfl] at hx361_3)
         (try rw [show 2 * 15 = 30 from rfl] at hx361_3)
         (try rw [show ((2 : Int)).toNat = 2 from rfl] at hx361_4)
         (try rw [show 2 * 15 = 30 from rfl] at hx361_4)
         (try rw [show ((2 : Int)).toNat = 2 from rfl] at hx361_5)
         (try rw [show 2 * 15 = 30 from rfl] at hx361_5)
         (try rw [show ((2 : Int)).toNat = 2 from rfl] at hx361_6)
         (try rw [show 2 * 15 = 30 from rfl] at hx361_6)
         (try rw [show ((2 : Int)).toNat = 2 from rfl] at hx361_7)
         (try rw [show 2 * 15 = 30 from rfl] at hx361_7)
         (try rw [show ((2 : Int)).toNat = 2 from rfl] at hx361_8)
         (try rw [show 2 * 15 = 30 from rfl] at hx361_8)
         (try rw [show ((2 : Int)).toNat = 2 from rfl] at hx361_9)
         (try rw [show 2 * 15 = 30 from rfl] at hx361_9)
         (try rw [show ((2 : Int)).toNat = 2 from rfl] at hx361_10)
         (try rw [show 2 * 15 = 30 from rfl] at hx361_10)
         (try rw [show ((2 : Int)).toNat = 2 from rfl] at hx361_11)
         (try rw [show 2 * 15 = 30 from rfl] at hx361_11)
         (try rw [show ((2 : Int)).toNat = 2 from rfl] at hx361_12)
         (try rw [show 2 * 15 = 30 from rfl] at hx361_12)
         (try rw [show ((2 : Int)).toNat = 2 from rfl] at hx361_13)
         (try rw [show 2 * 15 = 30 from rfl] at hx361_13)
         (try rw [show ((2 : Int)).toNat = 2 from rfl] at hx361_14)
         (try rw [show 2 * 15 = 30 from rfl] at hx361_14)
         have HR361_13 := As hi361_13
         have HC361_13 := As hl361_13
         clear hi361_13 hl361_13
         replace p361 := eq_true p361
         replace q361 := eq_true q361
         have ea_ := Option.some.inj (hx360_13.symm.trans hx361_13)
         injection ea_ with ea_ en_ ec_
         subst ea_
         subst ec_
         clear en_
         have p362 : 0 ≤ (1 : Int) := (by omega)
         have q362 : 1 < (t337.length : Int) := of_decide_eq_true (by first | (with_reducible assumption) | assumption)
         obtain ⟨ad362, A362_13, c362_13, e362, hx362_0, hx362_1, hx362_2, hx362_3, hx362_4, hx362_5, hx362_6, hx362_7, hx362_8, hx362_9, hx362_10, hx362_11, hx362_12, hx362_13, hx362_14, hl362_13, hi362_13⟩ := at_T28 (Kd.S_reads' HO_5.out).2.2 1 p362 q362
         (try rw [← Nbq34.out] at hx362_4)
         (try rw [← Nbq36.out] at hx362_4)
         (try rw [← Nbq34.out] at hx362_5)
         (try rw [← Nbq36.out] at hx362_5)
         (try rw [← Nbq34.out] at hx362_7)
         (try rw [← Nbq36.out] at hx362_7)
         (try rw [← Nbq34.out] at hx362_10)
         (try rw [← Nbq36.out] at hx362_10)
         obtain rfl : ad359 = ad362 := (by injection e362)
         obtain ⟨ce362, hce362, hMe362, hcc362⟩ := Kd.S_get HO_5.out z28 1 p362 (by first | exact q362 | exact of_decide_eq_true (by first | (with_reducible assumption) | assumption) | (have e_ := (Kd.S_reads' HO_5.out).1; omega))
         obtain ⟨ve362_13, rfl, ge362_13⟩ := k28_openM hMe362
         have hv362_13 := hcc362 13 _ rfl
         rw [add_field _ _ 13 (by omega)] at hv362_13
         replace hv362_13 := Option.some.inj (hv362_13.symm.trans hx362_13)
         rw [hv362_13] at ge362_13
         have HL362_13 := As (show Kd.R k50 50 _ _ _ _ ((rd_T28 t337 1).f9) from ge362_13)
         clear hv362_13 ge362_13
         clear hcc362 hce362
         (try simp only [show (1 : Int).toNat = 1 from rfl, Nat.reduceMul, Nat.reduceEqDiff, Go.Addr.add, ↓reduceIte] at hx362_0 hx362_1 hx362_2 hx362_3 hx362_4 hx362_5 hx362_6 hx362_7 hx362_8 hx362_9 hx362_10 hx362_11 hx362_12 hx362_13 hx362_14)
         have qi362 : (1 < t337.length) = True := eq_true (by omega)
         (try rw [show ((1 : Int)).toNat = 1 from rfl] at hx362_0)
         (try rw [show 1 * 15 = 15 from rfl] at hx362_0)
         (try rw [show ((1 : Int)).toNat = 1 from rfl] at hx362_1)
         (try rw [show 1 * 15 = 15 from rfl] at hx362_1)
         (try rw [show ((1 : Int)).toNat = 1 from rfl] at hx362_2)
         (try rw [show 1 * 15 = 15 from rfl] at hx362_2)
         (try rw [show ((1 : Int)).toNat = 1 from rfl] at hx362_3)
         (try rw [show 1 * 15 = 15 from rfl] at hx362_3)
         (try rw [show ((1 : Int)).toNat = 1 from rfl] at hx362_4)
         (try rw [show 1 * 15 = 15 from rfl] at hx362_4)
         (try rw [show ((1 : Int)).toNat = 1 from rfl] at hx362_5)
         (try rw [show 1 * 15 = 15 from rfl] at hx362_5)
         (try rw [show ((1 : Int)).toNat = 1 from rfl] at hx362_6)
         (try rw [show 1 * 15 = 15 from rfl] at hx362_6)
         (try rw [show ((1 : Int)).toNat = 1 from rfl] at hx362_7)
         (try rw [show 1 * 15 = 15 from rfl] at hx362_7)
         (try rw [show ((1 : Int)).toNat = 1 from rfl] at hx362_8)
         (try rw [show 1 * 15 = 15 from rfl] at hx362_8)
         (try rw [show ((1 : Int)).toNat = 1 from rfl] at hx362_9)
         (try rw [show 1 * 15 = 15 from rfl] at hx362_9)
         (try rw [show ((1 : Int)).toNat = 1 from rfl] at hx362_10)
         (try rw [show 1 * 15 = 15 from rfl] at hx362_10)
         (try rw [show ((1 : Int)).toNat = 1 from rfl] at hx362_11)
         (try rw [show 1 * 15 = 15 from rfl] at hx362_11)
         (try rw [show ((1 : Int)).toNat = 1 from rfl] at hx362_12)
         (try rw [show 1 * 15 = 15 from rfl] at hx362_12)
         (try rw [show ((1 : Int)).toNat = 1 from rfl] at hx362_13)
         (try rw [show 1 * 15 = 15 from rfl] at hx362_13)
         (try rw [show ((1 : Int)).toNat = 1 from rfl] at hx362_14)
         (try rw [show 1 * 15 = 15 from rfl] at hx362_14)
         have HR362_13 := As hi362_13
         have HC362_13 := As hl362_13
         clear hi362_13 hl362_13
         replace p362 := eq_true p362
         replace q362 := eq_true q362
         have ea_ := Option.some.inj (hx359_13.symm.trans hx362_13)
         injection ea_ with ea_ en_ ec_
         subst ea_
         subst ec_
         clear en_
         have p363 : 0 ≤ (2 : Int) := (by omega)
         have q363 : 2 < (t337.length : Int) := of_decide_eq_true (by first | (with_reducible assumption) | assumption)
         obtain ⟨ad363, A363_13, c363_13, e363, hx363_0, hx363_1, hx363_2, hx363_3, hx363_4, hx363_5, hx363_6, hx363_7, hx363_8, hx363_9, hx363_10, hx363_11, hx363_12, hx363_13, hx363_14, hl363_13, hi363_13⟩ := at_T28 (Kd.S_reads' HO_5.out).2.2 2 p363 q363
         (try rw [← Nbq34.out] at hx363_4)
         (try rw [← Nbq36.out] at hx363_4)
         (try rw [← Nbq34.out] at hx363_5)
         (try rw [← Nbq36.out] at hx363_5)
         (try rw [← Nbq34.out] at hx363_7)
         (try rw [← Nbq36.out] at hx363_7)
         (try rw [← Nbq34.out] at hx363_10)
         (try rw [← Nbq36.out] at hx363_10)
         obtain rfl : ad359 = ad363 := (by injection e363)
         obtain ⟨ce363, hce363, hMe363, hcc363⟩ := Kd.S_get HO_5.out z28 2 p363 (by first | exact q363 | exact of_decide_eq_true (by first | (with_reducible assumption) | assumption) | (have e_ := (Kd.S_reads' HO_5.out).1; omega))
         obtain ⟨ve363_13, rfl, ge363_13⟩ := k28_openM hMe363
         have hv363_13 := hcc363 13 _ rfl
         rw [add_field _ _ 13 (by omega)] at hv363_13
         replace hv363_13 := Option.some.inj (hv363_13.symm.trans hx363_13)
         rw [hv363_13] at ge363_13
         have HL363_13 := As (show Kd.R k50 50 _ _ _ _ ((rd_T28 t337 2).f9) from ge363_13)
         clear hv363_13 ge363_13
         clear hcc363 hce363
         (try simp only [show (2 : Int).toNat = 2 from rfl, Nat.reduceMul, Nat.reduceEqDiff, Go.Addr.add, ↓reduceIte] at hx363_0 hx363_1 hx363_2 hx363_3 hx363_4 hx363_5 hx363_6 hx363_7 hx363_8 hx363_9 hx363_10 hx363_11 hx363_12 hx363_13 hx363_14)
         have qi363 : (2 < t337.length) = True := eq_true (by omega)
         (try rw [show ((2 : Int)).toNat = 2 from rfl] at hx363_0)
         (try rw [show 2 * 15 = 30 from rfl] at hx363_0)
         (try rw [show ((2 : Int)).toNat = 2 from rfl] at hx363_1)
         (try rw [show 2 * 15 = 30 from rfl] at hx363_1)
         (try rw [show ((2 : Int)).toNat = 2 from rfl] at hx363_2)
         (try rw [show 2 * 15 = 30 from rfl] at hx363_2)
         (try rw [show ((2 : Int)).toNat = 2 from rfl] at hx363_3)
         (try rw [show 2 * 15 = 30 from rfl] at hx363_3)
         (try rw [show ((2 : Int)).toNat = 2 from rfl] at hx363_4)
         (try rw [show 2 * 15 = 30 from rfl] at hx363_4)
         (try rw [show ((2 : Int)).toNat = 2 from rfl] at hx363_5)
         (try rw [show 2 * 15 = 30 from rfl] at hx363_5)
         (try rw [show ((2 : Int)).toNat = 2 from rfl] at hx363_6)
         (try rw [show 2 * 15 = 30 from rfl] at hx363_6)
         (try rw [show ((2 : Int)).toNat = 2 from rfl] at hx363_7)
         (try rw [show 2 * 15 = 30 from rfl] at hx363_7)
         (try rw [show ((2 : Int)).toNat = 2 from rfl] at hx363_8)
         (try rw [show 2 * 15 = 30 from rfl] at hx363_8)
         (try rw [show ((2 : Int)).toNat = 2 from rfl] at hx363_9)
         (try rw [show 2 * 15 = 30 from rfl] at hx363_9)
         (try rw [show ((2 : Int)).toNat = 2 from rfl] at hx363_10)
         (try rw [show 2 * 15 = 30 from rfl] at hx363_10)
         (try rw [show ((2 : Int)).toNat = 2 from rfl] at hx363_11)
         (try rw [show 2 * 15 = 30 from rfl] at hx363_11)
         (try rw [show ((2 : Int)).toNat = 2 from rfl] at hx363_12)
         (try rw [show 2 * 15 = 30 from rfl] at hx363_12)
         (try rw [show ((2 : Int)).toNat = 2 from rfl] at hx363_13)
         (try rw [show 2 * 15 = 30 from rfl] at hx363_13)
         (try rw [show ((2 : Int)).toNat = 2 from rfl] at hx363_14)
         (try rw [show 2 * 15 = 30 from rfl] at hx363_14)
         have HR363_13 := As hi363_13
         have HC363_13 := As hl363_13
         clear hi363_13 hl363_13
         replace p363 := eq_true p363
         replace q363 := eq_true q363
         have ea_ := Option.some.inj (hx360_13.symm.trans hx363_13)
         injection ea_ with ea_ en_ ec_
         subst ea_
         subst ec_
         clear en_
         have p364 : 0 ≤ (1 : Int) := (by omega)
         have q364 : 1 < (t337.length : Int) := of_decide_eq_true (by first | (with_reducible assumption) | assumption)
         obtain ⟨ad364, A364_13, c364_13, e364, hx364_0, hx364_1, hx364_2, hx364_3, hx364_4, hx364_5, hx364_6, hx364_7, hx364_8, hx364_9, hx364_10, hx364_11, hx364_12, hx364_13, hx364_14, hl364_13, hi364_13⟩ := at_T28 (Kd.S_reads' HO_5.out).2.2 1 p364 q364
         (try rw [← Nbq34.out] at hx364_4)
         (try rw [← Nbq36.out] at hx364_4)
         (try rw [← Nbq34.out] at hx364_5)
         (try rw [← Nbq36.out] at hx364_5)
         (try rw [← Nbq34.out] at hx364_7)
         (try rw [← Nbq36.out] at hx364_7)
         (try rw [← Nbq34.out] at hx364_10)
         (try rw [← Nbq36.out] at hx364_10)
         obtain rfl : ad359 = ad364 := (by injection e364)
         obtain ⟨ce364, hce364, hMe364, hcc364⟩ := Kd.S_get HO_5.out z28 1 p364 (by first | exact q364 | exact of_decide_eq_true (by first | (with_reducible assumption) | assumption) | (have e_ := (Kd.S_reads' HO_5.out).1; omega))
         obtain ⟨ve364_13, rfl, ge364_13⟩ := k28_openM hMe364
         have hv364_13 := hcc364 13 _ rfl
         rw [add_field _ _ 13 (by omega)] at hv364_13
         replace hv364_13 := Option.some.inj (hv364_13.symm.trans hx364_13)
         rw [hv364_13] at ge364_13
         have HL364_13 := As (show Kd.R k50 50 _ _ _ _ ((rd_T28 t337 1).f9) from ge364_13)
         clear hv364_13 ge364_13
         clear hcc364 hce364
         (try simp only [show (1 : Int).toNat = 1 from rfl, Nat.reduceMul, Nat.reduceEqDiff, Go.Addr.add, ↓reduceIte] at hx364_0 hx364_1 hx364_2 hx364_3 hx364_4 hx364_5 hx364_6 hx364_7 hx364_8 hx364_9 hx364_10 hx364_11 hx364_12 hx364_13 hx364_14)
         have qi364 : (1 < t337.length) = True := eq_true (by omega)
         (try rw [show ((1 : Int)).toNat = 1 from rfl] at hx364_0)
         (try rw [show 1 * 15 = 15 from rfl] at hx364_0)
         (try rw [show ((1 : Int)).toNat = 1 from rfl] at hx364_1)
         (try rw [show 1 * 15 = 15 from rfl] at hx364_1)
         (try rw [show ((1 : Int)).toNat = 1 from rfl] at hx364_2)
         (try rw [show 1 * 15 = 15 from rfl] at hx364_2)
         (try rw [show ((1 : Int)).toNat = 1 from rfl] at hx364_3)
         (try rw [show 1 * 15 = 15 from rfl] at hx364_3)
         (try rw [show ((1 : Int)).toNat = 1 from rfl] at hx364_4)
         (try rw [show 1 * 15 = 15 from rfl] at hx364_4)
         (try rw [show ((1 : Int)).toNat = 1 from rfl] at hx364_5)
         (try rw [show 1 * 15 = 15 from rfl] at hx364_5)
         (try rw [show ((1 : Int)).toNat = 1 from rfl] at hx364_6)
         (try rw [show 1 * 15 = 15 from rfl] at hx364_6)
         (try rw [show ((1 : Int)).toNat = 1 from rfl] at hx364_7)
         (try rw [show 1 * 15 = 15 from rfl] at hx364_7)
         (try rw [show ((1 : Int)).toNat = 1 from rfl] at hx364_8)
         (try rw [show 1 * 15 = 15 from rfl] at hx364_8)
         (try rw [show ((1 : Int)).toNat = 1 from rfl] at hx364_9)
         (try rw [show 1 * 15 = 15 from rfl] at hx364_9)
         (try rw [show ((1 : Int)).toNat = 1 from rfl] at hx364_10)
         (try rw [show 1 * 15 = 15 from rfl] at hx364_10)
         (try rw [show ((1 : Int)).toNat = 1 from rfl] at hx364_11)
         (try rw [show 1 * 15 = 15 from rfl] at hx364_11)
         (try rw [show ((1 : Int)).toNat = 1 from rfl] at hx364_12)
         (try rw [show 1 * 15 = 15 from rfl] at hx364_12)
         (try rw [show ((1 : Int)).toNat = 1 from rfl] at hx364_13)
         (try rw [show 1 * 15 = 15 from rfl] at hx364_13)
         (try rw [show ((1 : Int)).toNat = 1 from rfl] at hx364_14)
         (try rw [show 1 * 15 = 15 from rfl] at hx364_14)
         have HR364_13 := As hi364_13
         have HC364_13 := As hl364_13
         clear hi364_13 hl364_13
         replace p364 := eq_true p364
         replace q364 := eq_true q364
         have ea_ := Option.some.inj (hx359_13.symm.trans hx364_13)
         injection ea_ with ea_ en_ ec_
         subst ea_
         subst ec_
         clear en_
         refine start_ (n := 57) (S := fun w' => w'.cell? ⟨gb302, 0, none⟩ = some (.int .i64 t284) ∧ w'.cell? ⟨gb302, 1, none⟩ = some (.int .i64 t285) ∧ w'.cell? ⟨gb302, 2, none⟩ = some (.int .i64 t286) ∧ w'.cell? ⟨gb302, 3, none⟩ = some (.int .i64 t287) ∧ w'.cell? ⟨gb302, 4, none⟩ = some (.bool t288) ∧ w'.cell? ⟨gb302, 5, none⟩ = some (.bool t289) ∧ w'.cell? ⟨gb302, 6, none⟩ = some (.int .i64 t290) ∧ w'.cell? ⟨gb302, 7, none⟩ = some (.bool t291) ∧ w'.cell? ⟨gb302, 8, none⟩ = some (.int .u64 t292) ∧ w'.cell? ⟨gb302, 9, none⟩ = some (.int .u64 t293) ∧ w'.cell? ⟨gb302, 10, none⟩ = some (.bool t294) ∧ w'.cell? ⟨gb302, 11, none⟩ = some (.int .u64 t295) ∧ w'.cell? ⟨gb302, 12, none⟩ = some (.int .u64 t296) ∧ w'.cell? ⟨gb302, 13, none⟩ = some (.slice Ao13 t297.length co13) ∧ w'.cell? ⟨gb302, 14, none⟩ = some (.string t300) ∧ w'.cell? ⟨ad359.block, ad359.off + 15, none⟩ = some (.int .i64 ((rd_T28 t337 1).f0)) ∧ w'.cell? ⟨ad359.block, ad359.off + 15 + 1, none⟩ = some (.int .i64 ((rd_T28 t337 1).f1)) ∧ w'.cell? ⟨ad359.block, ad359.off + 15 + 2, none⟩ = some (.int .i64 ((rd_T28 t337 1).f2)) ∧ w'.cell? ⟨ad359.block, ad359.off + 15 + 3, none⟩ = some (.int .i64 ((rd_T28 t337 1).f3)) ∧ w'.cell? ⟨ad359.block, ad359.off + 15 + 4, none⟩ = some (.bool ((rd_T28 t337 1).f4)) ∧ w'.cell? ⟨ad359.block, ad359.off + 15 + 5, none⟩ = some (.bool true) ∧ w'.cell? ⟨ad359.block, ad359.off + 15 + 6, none⟩ = some (.int .i64 ((rd_T28 t337 1).f6)) ∧ w'.cell? ⟨ad359.block, ad359.off + 15 + 7, none⟩ = some (.bool ((rd_T28 t337 1).f7.f0)) ∧ w'.cell? ⟨ad359.block, ad359.off + 15 + 8, none⟩ = some (.int .u64 ((rd_T28 t337 1).f7.f1)) ∧ w'.cell? ⟨ad359.block, ad359.off + 15 + 9, none⟩ = some (.int .u64 ((rd_T28 t337 1).f7.f2)) ∧ w'.cell? ⟨ad359.block, ad359.off + 15 + 10, none⟩ = some (.bool ((rd_T28 t337 1).f8.f0)) ∧ w'.cell? ⟨ad359.block, ad359.off + 15 + 11, none⟩ = some (.int .u64 ((rd_T28 t337 1).f8.f1)) ∧ w'.cell? ⟨ad359.block, ad359.off + 15 + 12, none⟩ = some (.int .u64 ((rd_T28 t337 1).f8.f2)) ∧ w'.cell? ⟨ad359.block, ad359.off + 15 + 13, none⟩ = some (.slice A359_13 ((rd_T28 t337 1).f9).length c359_13) ∧ w'.cell? ⟨ad359.block, ad359.off + 15 + 14, none⟩ = some (.string ((rd_T28 t337 1).f10)) ∧ w'.cell? ⟨ad359.block, ad359.off + 30, none⟩ = some (.int .i64 ((rd_T28 t337 2).f0)) ∧ w'.cell? ⟨ad359.block, ad359.off + 30 + 1, none⟩ = some (.int .i64 ((rd_T28 t337 2).f1)) ∧ w'.cell? ⟨ad359.block, ad359.off + 30 + 2, none⟩ = some (.int .i64 ((rd_T28 t337 2).f2)) ∧ w'.cell? ⟨ad359.block, ad359.off + 30 + 3, none⟩ = some (.int .i64 ((rd_T28 t337 2).f3)) ∧ w'.cell? ⟨ad359.block, ad359.off + 30 + 4, none⟩ = some (.bool ((rd_T28 t337 2).f4)) ∧ w'.cell? ⟨ad359.block, ad359.off + 30 + 5, none⟩ = some (.bool false) ∧ w'.cell? ⟨ad359.block, ad359.off + 30 + 6, none⟩ = some (.int .i64 ((rd_T28 t337 2).f6)) ∧ w'.cell? ⟨ad359.block, ad359.off + 30 + 7, none⟩ = some (.bool ((rd_T28 t337 2).f7.f0)) ∧ w'.cell? ⟨ad359.block, ad359.off + 30 + 8, none⟩ = some (.int .u64 ((rd_T28 t337 2).f7.f1)) ∧ w'.cell? ⟨ad359.block, ad359.off + 30 + 9, none⟩ = some (.int .u64 ((rd_T28 t337 2).f7.f2)) ∧ w'.cell? ⟨ad359.block, ad359.off + 30 + 10, none⟩ = some (.bool ((rd_T28 t337 2).f8.f0)) ∧ w'.cell? ⟨ad359.block, ad359.off + 30 + 11, none⟩ = some (.int .u64 ((rd_T28 t337 2).f8.f1)) ∧ w'.cell? ⟨ad359.block, ad359.off + 30 + 12, none⟩ = some (.int .u64 ((rd_T28 t337 2).f8.f2)) ∧ w'.cell? ⟨ad359.block, ad359.off + 30 + 13, none⟩ = some (.slice A360_13 ((rd_T28 t337 2).f9).length c360_13) ∧ w'.cell? ⟨ad359.block, ad359.off + 30 + 14, none⟩ = some (.string ((rd_T28 t337 2).f10)) ∧ w'.cell? ⟨ad359.block, ad359.off + 30, none⟩ = some (.int .i64 ((rd_T28 t337 2).f0)) ∧ w'.cell? ⟨ad359.block, ad359.off + 30 + 1, none⟩ = some (.int .i64 ((rd_T28 t337 2).f1)) ∧ w'.cell? ⟨ad359.block, ad359.off + 30 + 2, none⟩ = some (.int .i64 ((rd_T28 t337 2).f2)) ∧ w'.cell? ⟨ad359.block, ad359.off + 30 + 3, none⟩ = some (.int .i64 ((rd_T28 t337 2).f3)) ∧ w'.cell? ⟨ad359.block, ad359.off + 30 + 4, none⟩ = some (.bool ((rd_T28 t337 2).f4)) ∧ w'.cell? ⟨ad359.block, ad359.off + 30 + 5, none⟩ = some (.bool false) ∧ w'.cell? ⟨ad359.block, ad359.off + 30 + 6, none⟩ = some (.int .i64 ((rd_T28 t337 2).f6)) ∧ w'.cell? ⟨ad359.block, ad359.off + 30 + 7, none⟩ = some (.bool ((rd_T28 t337 2).f7.f0)) ∧ w'.cell? ⟨ad359.block, ad359.off + 30 + 8, none⟩ = some (.int .u64 ((rd_T28 t337 2).f7.f1)) ∧ w'.cell? ⟨ad359.block, ad359.off + 30 + 9, none⟩ = some (.int .u64 ((rd_T28 t337 2).f7.f2)) ∧ w'.cell? ⟨ad359.block, ad359.off + 30 + 10, none⟩ = some (.bool ((rd_T28 t337 2).f8.f0)) ∧ w'.cell? ⟨ad359.block, ad359.off + 30 + 11, none⟩ = some (.int .u64 ((rd_T28 t337 2).f8.f1)) ∧ w'.cell? ⟨ad359.block, ad359.off + 30 + 12, none⟩ = some (.int .u64 ((rd_T28 t337 2).f8.f2)) ∧ w'.cell? ⟨ad359.block, ad359.off + 30 + 13, none⟩ = some (.slice A360_13 ((rd_T28 t337 2).f9).length c360_13) ∧ w'.cell? ⟨ad359.block, ad359.off + 30 + 14, none⟩ = some (.string ((rd_T28 t337 2).f10)) ∧ w'.cell? ⟨ad359.block, ad359.off + 15, none⟩ = some (.int .i64 ((rd_T28 t337 1).f0)) ∧ w'.cell? ⟨ad359.block, ad359.off + 15 + 1, none⟩ = some (.int .i64 ((rd_T28 t337 1).f1)) ∧ w'.cell? ⟨ad359.block, ad359.off + 15 + 2, none⟩ = some (.int .i64 ((rd_T28 t337 1).f2)) ∧ w'.cell? ⟨ad359.block, ad359.off + 15 + 3, none⟩ = some (.int .i64 ((rd_T28 t337 1).f3)) ∧ w'.cell? ⟨ad359.block, ad359.off + 15 + 4, none⟩ = some (.bool ((rd_T28 t337 1).f4)) ∧ w'.cell? ⟨ad359.block, ad359.off + 15 + 5, none⟩ = some (.bool true) ∧ w'.cell? ⟨ad359.block, ad359.off + 15 + 6, none⟩ = some (.int .i64 ((rd_T28 t337 1).f6)) ∧ w'.cell? ⟨ad359.block, ad359.off + 15 + 7, none⟩ = some (.bool ((rd_T28 t337 1).f7.f0)) ∧ w'.cell? ⟨ad359.block, ad359.off + 15 + 8, none⟩ = some (.int .u64 ((rd_T28 t337 1).f7.f1)) ∧ w'.cell? ⟨ad359.block, ad359.off + 15 + 9, none⟩ = some (.int .u64 ((rd_T28 t337 1).f7.f2)) ∧ w'.cell? ⟨ad359.block, ad359.off + 15 + 10, none⟩ = some (.bool ((rd_T28 t337 1).f8.f0)) ∧ w'.cell? ⟨ad359.block, ad359.off + 15 + 11, none⟩ = some (.int .u64 ((rd_T28 t337 1).f8.f1)) ∧ w'.cell? ⟨ad359.block, ad359.off + 15 + 12, none⟩ = some (.int .u64 ((rd_T28 t337 1).f8.f2)) ∧ w'.cell? ⟨ad359.block, ad359.off + 15 + 13, none⟩ = some (.slice A359_13 ((rd_T28 t337 1).f9).length c359_13) ∧ w'.cell? ⟨ad359.block, ad359.off + 15 + 14, none⟩ = some (.string ((rd_T28 t337 1).f10)) ∧ w'.cell? ⟨ad359.block, ad359.off + 30, none⟩ = some (.int .i64 ((rd_T28 t337 2).f0)) ∧ w'.cell? ⟨ad359.block, ad359.off + 30 + 1, none⟩ = some (.int .i64 ((rd_T28 t337 2).f1)) ∧ w'.cell? ⟨ad359.block, ad359.off + 30 + 2, none⟩ = some (.int .i64 ((rd_T28 t337 2).f2)) ∧ w'.cell? ⟨ad359.block, ad359.off + 30 + 3, none⟩ = some (.int .i64 ((rd_T28 t337 2).f3)) ∧ w'.cell? ⟨ad359.block, ad359.off + 30 + 4, none⟩ = some (.bool ((rd_T28 t337 2).f4)) ∧ w'.cell? ⟨ad359.block, ad359.off + 30 + 5, none⟩ = some (.bool false) ∧ w'.cell? ⟨ad359.block, ad359.off + 30 + 6, none⟩ = some (.int .i64 ((rd_T28 t337 2).f6)) ∧ w'.cell? ⟨ad359.block, ad359.off + 30 + 7, none⟩ = some (.bool ((rd_T28 t337 2).f7.f0)) ∧ w'.cell? ⟨ad359.block, ad359.off + 30 + 8, none⟩ = some (.int .u64 ((rd_T28 t337 2).f7.f1)) ∧ w'.cell? ⟨ad359.block, ad359.off + 30 + 9, none⟩ = some (.int .u64 ((rd_T28 t337 2).f7.f2)) ∧ w'.cell? ⟨ad359.block, ad359.off + 30 + 10, none⟩ = some (.bool ((rd_T28 t337 2).f8.f0)) ∧ w'.cell? ⟨ad359.block, ad359.off + 30 + 11, none⟩ = some (.int .u64 ((rd_T28 t337 2).f8.f1)) ∧ w'.cell? ⟨ad359.block, ad359.off + 30 + 12, none⟩ = some (.int .u64 ((rd_T28 t337 2).f8.f2)) ∧ w'.cell? ⟨ad359.block, ad359.off + 30 + 13, none⟩ = some (.slice A360_13 ((rd_T28 t337 2).f9).length c360_13) ∧ w'.cell? ⟨ad359.block, ad359.off + 30 + 14, none⟩ = some (.string ((rd_T28 t337 2).f10)) ∧ w'.cell? ⟨ad359.block, ad359.off + 15, none⟩ = some (.int .i64 ((rd_T28 t337 1).f0)) ∧ w'.cell? ⟨ad359.block, ad359.off + 15 + 1, none⟩ = some (.int .i64 ((rd_T28 t337 1).f1)) ∧ w'.cell? ⟨ad359.block, ad359.off + 15 + 2, none⟩ = some (.int .i64 ((rd_T28 t337 1).f2)) ∧ w'.cell? ⟨ad359.block, ad359.off + 15 + 3, none⟩ = some (.int .i64 ((rd_T28 t337 1).f3)) ∧ w'.cell? ⟨ad359.block, ad359.off + 15 + 4, none⟩ = some (.bool ((rd_T28 t337 1).f4)) ∧ w'.cell? ⟨ad359.block, ad359.off + 15 + 5, none⟩ = some (.bool (true)) ∧ w'.cell? ⟨ad359.block, ad359.off + 15 + 6, none⟩ = some (.int .i64 ((rd_T28 t337 1).f6)) ∧ w'.cell? ⟨ad359.block, ad359.off + 15 + 7, none⟩ = some (.bool ((rd_T28 t337 1).f7.f0)) ∧ w'.cell? ⟨ad359.block, ad359.off + 15 + 8, none⟩ = some (.int .u64 ((rd_T28 t337 1).f7.f1)) ∧ w'.cell? ⟨ad359.block, ad359.off + 15 + 9, none⟩ = some (.int .u64 ((rd_T28 t337 1).f7.f2)) ∧ w'.cell? ⟨ad359.block, ad359.off + 15 + 10, none⟩ = some (.bool ((rd_T28 t337 1).f8.f0)) ∧ w'.cell? ⟨ad359.block, ad359.off + 15 + 11, none⟩ = some (.int .u64 ((rd_T28 t337 1).f8.f1)) ∧ w'.cell? ⟨ad359.block, ad359.off + 15 + 12, none⟩ = some (.int .u64 ((rd_T28 t337 1).f8.f2)) ∧ w'.cell? ⟨ad359.block, ad359.off + 15 + 13, none⟩ = some (.slice A359_13 ((rd_T28 t337 1).f9).length c359_13) ∧ w'.cell? ⟨ad359.block, ad359.off + 15 + 14, none⟩ = some (.string ((rd_T28 t337 1).f10))) (ds := []) #[O, O, O, O, O, O, O, O, O, O, O, O, O, O, O, O, O, O, O, O, O, O, O, O, O, O, O, O, O, O, O, O, O, O, O, O, O, O, O, O, O, O, O, O, O, O, O, O, O, O, O, O, O, O, O, O, O] (by kernel_rfl) rfl rfl ⟨kC BK302.out 0, kC BK302.out 1, kC BK302.out 2, kC BK302.out 3, kC BK302.out 4, kC BK302.out 5, kC BK302.out 6, kC BK302.out 7, kC BK302.out 8, kC BK302.out 9, kC BK302.out 10, kC BK302.out 11, kC BK302.out 12, kC BK302.out 13, kC BK302.out 14, hx359_0, hx359_1, hx359_2, hx359_3, hx359_4, hx359_5, hx359_6, hx359_7, hx359_8, hx359_9, hx359_10, hx359_11, hx359_12, hx359_13, hx359_14, hx360_0, hx360_1, hx360_2, hx360_3, hx360_4, hx360_5, hx360_6, hx360_7, hx360_8, hx360_9, hx360_10, hx360_11, hx360_12, hx360_13, hx360_14, hx361_0, hx361_1, hx361_2, hx361_3, hx361_4, hx361_5, hx361_6, hx361_7, hx361_8, hx361_9, hx361_10, hx361_11, hx361_12, hx361_13, hx361_14, hx362_0, hx362_1, hx362_2, hx362_3, hx362_4, hx362_5, hx362_6, hx362_7, hx362_8, hx362_9, hx362_10, hx362_11, hx362_12, hx362_13, hx362_14, hx363_0, hx363_1, hx363_2, hx363_3, hx363_4, hx363_5, hx363_6, hx363_7, hx363_8, hx363_9, hx363_10, hx363_11, hx363_12, hx363_13, hx363_14, hx364_0, hx364_1, hx364_2, hx364_3, hx364_4, hx364_5, hx364_6, hx364_7, hx364_8, hx364_9, hx364_10, hx364_11, hx364_12, hx364_13, hx364_14⟩ (fun hHeld => ?_); refine with_tabW intrusionlaw11_awake.tab6 intrusionlaw11_awake.bits6 (fun HT_ HW_ => ?_)
         generalize wc.drew = w42 at HO_5 HO_303013 BK302 HB HL359_13 HL360_13 HL361_13 HL362_13 HL363_13 HL364_13 HR359_13 HR360_13 HR361_13 HR362_13 HR363_13 HR364_13 hx359_0 hx359_1 hx359_10 hx359_11 hx359_12 hx359_13 hx359_14 hx359_2 hx359_3 hx359_4 hx359_5 hx359_6 hx359_7 hx359_8 hx359_9 hx360_0 hx360_1 hx360_10 hx360_11 hx360_12 hx360_13 hx360_14 hx360_2 hx360_3 hx360_4 hx360_5 hx360_6 hx360_7 hx360_8 hx360_9 hx361_0 hx361_1 hx361_10 hx361_11 hx361_12 hx361_13 hx361_14 hx361_2 hx361_3 hx361_4 hx361_5 hx361_6 hx361_7 hx361_8 hx361_9 hx362_0 hx362_1 hx362_10 hx362_11 hx362_12 hx362_13 hx362_14 hx362_2 hx362_3 hx362_4 hx362_5 hx362_6 hx362_7 hx362_8 hx362_9 hx363_0 hx363_1 hx363_10 hx363_11 hx363_12 hx363_13 hx363_14 hx363_2 hx363_3 hx363_4 hx363_5 hx363_6 hx363_7 hx363_8 hx363_9 hx364_0 hx364_1 hx364_10 hx364_11 hx364_12 hx364_13 hx364_14 hx364_2 hx364_3 hx364_4 hx364_5 hx364_6 hx364_7 hx364_8 hx364_9 hHeld ⊢
         refine kP 0 46 #[I, O, O, O, O, O, O, O, O, O, O, O, O, O, O, O, O, O, O, O, O, O, O, O, O, O, O, O, O, O, O, O, O, O, O, O, O, O, O, O, O, O, O, O, O, O, O, O, O, O, O, O, O, O, O, O, O] ?_ (any_of HT_.out (by kernel_rfl))
         refine kP 1 47 #[I, I, O, O, O, O, O, O, O, O, O, O, O, O, O, O, O, O, O, O, O, O, O, O, O, O, O, O, O, O, O, O, O, O, O, O, O, O, O, O, O, O, O, O, O, O, O, O, O, O, O, O, O, O, O, O, O] ?_ (any_of HT_.out (by kernel_rfl))
         refine kP 2 48 #[I, I, I, O, O, O, O, O, O, O, O, O, O, O, O, O, O, O, O, O, O, O, O, O, O, O, O, O, O, O, O, O, O, O, O, O, O, O, O, O, O, O, O, O, O, O, O, O, O, O, O, O, O, O, O, O, O] ?_ (any_of HT_.out (by kernel_rfl))
         refine kP 3 49 #[I, I, I, I, O, O, O, O, O, O, O, O, O, O, O, O, O, O, O, O, O, O, O, O, O, O, O, O, O, O, O, O, O, O, O, O, O, O, O, O, O, O, O, O, O, O, O, O, O, O, O, O, O, O, O, O, O] ?_ (any_of HT_.out (by kernel_rfl))
         refine take_ (i := 4) (N := some 50) (v := ?_) (a' := ?_) #[I, I, I, I, I, O, O, O, O, O, O, O, O, O, O, O, O, O, O, O, O, O, O, O, O, O, O, O, O, O, O, O, O, O, O, O, O, O, O, O, O, O, O, O, O, O, O, O, O, O, O, O, O, O, O, O, O] rfl rfl (take_ofW HT_.out HW_.out (by kernel_rfl)) (fun _ _ _ h => h) (Or.inl ⟨by rfl, ?_⟩) hHeld ?_ ?_
         rotate_left
         ·rintro w' ⟨s0, s1, s2, s3, s4, s5, s6, s7, s8, s9, s10, s11, s12, s13, s14, s15, s16, s17, s18, s19, s20, s21, s22, s23, s24, s25, s26, s27, s28, s29, s30, s31, s32, s33, s34, s35, s36, s37, s38, s39, s40, s41, s42, s43, s44, s45, s46, s47, s48, s49, s50, s51, s52, s53, s54, s55, s56, s57, s58, s59, s60, s61, s62, s63, s64, s65, s66, s67, s68, s69, s70, s71, s72, s73, s74, s75, s76, s77, s78, s79, s80, s81, s82, s83, s84, s85, s86, s87, s88, s89, s90, s91, s92, s93, s94, s95, s96, s97, s98, s99, s100, s101, s102, s103, s104⟩
          go_simp
          with_reducible rfl
         rotate_left
         ·simp only [Act.put, sA, sZ, sS, i64_w, i32_w]
          rfl
         refine one_ (i := 5) (N := some 51) #[I, I, I, I, I, I, O, O, O, O, O, O, O, O, O, O, O, O, O, O, O, O, O, O, O, O, O, O, O, O, O, O, O, O, O, O, O, O, O, O, O, O, O, O, O, O, O, O, O, O, O, O, O, O, O, O, O] rfl rfl (one_of HT_.out (by kernel_rfl)) (by decide) (fun K hK => ?_)
         refine goes_ Try.func24 (by kernel_rfl) rfl #[] (by rfl) rfl rfl kA ?_
         with_reducible refine (intrusionlaw11_example.calls  t341 t342 t343 t344 t345 t346 t347 t348 t349 t350 t351 t352 t353 t354 t357 _ A26.out).mono ?_
         rintro e w43 ⟨v355, rfl, ho0, hb⟩
         have ⟨_, _, _, _, _, _, _, _, _, _, _, _, _, _, _, HS15_, HS16_, HS17_, HS18_, HS19_, HS20_, HS21_, HS22_, HS23_, HS24_, HS25_, HS26_, HS27_, HS28_, HS29_, HS30_, HS31_, HS32_, HS33_, HS34_, HS35_, HS36_, HS37_, HS38_, HS39_, HS40_, HS41_, HS42_, HS43_, HS44_, HS45_, HS46_, HS47_, HS48_, HS49_, HS50_, HS51_, HS52_, HS53_, HS54_, HS55_, HS56_, HS57_, HS58_, HS59_, HS60_, HS61_, HS62_, HS63_, HS64_, HS65_, HS66_, HS67_, HS68_, HS69_, HS70_, HS71_, HS72_, HS73_, HS74_, HS75_, HS76_, HS77_, HS78_, HS79_, HS80_, HS81_, HS82_, HS83_, HS84_, HS85_, HS86_, HS87_, HS88_, HS89_, HS90_, HS91_, HS92_, HS93_, HS94_, HS95_, HS96_, HS97_, HS98_, HS99_, HS100_, HS101_, HS102_, HS103_, HS104_⟩ := hHeld
         replace HS15_ := hcell hb HS15_
         replace HS16_ := hcell hb HS16_
         replace HS17_ := hcell hb HS17_
         replace HS18_ := hcell hb HS18_
         replace HS19_ := hcell hb HS19_
         replace HS20_ := hcell hb HS20_
         replace HS21_ := hcell hb HS21_
         replace HS22_ := hcell hb HS22_
         replace HS23_ := hcell hb HS23_
         replace HS24_ := hcell hb HS24_
         replace HS25_ := hcell hb HS25_
         replace HS26_ := hcell hb HS26_
         replace HS27_ := hcell hb HS27_
         replace HS28_ := hcell hb HS28_
         replace HS29_ := hcell hb HS29_
         replace HS30_ := hcell hb HS30_
         replace HS31_ := hcell hb HS31_
         replace HS32_ := hcell hb HS32_
         replace HS33_ := hcell hb HS33_
         replace HS34_ := hcell hb HS34_
         replace HS35_ := hcell hb HS35_
         replace HS36_ := hcell hb HS36_
         replace HS37_ := hcell hb HS37_
         replace HS38_ := hcell hb HS38_
         replace HS39_ := hcell hb HS39_
         replace HS40_ := hcell hb HS40_
         replace HS41_ := hcell hb HS41_
         replace HS42_ := hcell hb HS42_
         replace HS43_ := hcell hb HS43_
         replace HS44_ := hcell hb HS44_
         replace HS45_ := hcell hb HS45_
         replace HS46_ := hcell hb HS46_
         replace HS47_ := hcell hb HS47_
         replace HS48_ := hcell hb HS48_
         replace HS49_ := hcell hb HS49_
         replace HS50_ := hcell hb HS50_
         replace HS51_ := hcell hb HS51_
         replace HS52_ := hcell hb HS52_
         replace HS53_ := hcell hb HS53_
         replace HS54_ := hcell hb HS54_
         replace HS55_ := hcell hb HS55_
         replace HS56_ := hcell hb HS56_
         replace HS57_ := hcell hb HS57_
         replace HS58_ := hcell hb HS58_
         replace HS59_ := hcell hb HS59_
         replace HS60_ := hcell hb HS60_
         replace HS61_ := hcell hb HS61_
         replace HS62_ := hcell hb HS62_
         replace HS63_ := hcell hb HS63_
         replace HS64_ := hcell hb HS64_
         replace HS65_ := hcell hb HS65_
         replace HS66_ := hcell hb HS66_
         replace HS67_ := hcell hb HS67_
         replace HS68_ := hcell hb HS68_
         replace HS69_ := hcell hb HS69_
         replace HS70_ := hcell hb HS70_
         replace HS71_ := hcell hb HS71_
         replace HS72_ := hcell hb HS72_
         replace HS73_ := hcell hb HS73_
         replace HS74_ := hcell hb HS74_
         replace HS75_ := hcell hb HS75_
         replace HS76_ := hcell hb HS76_
         replace HS77_ := hcell hb HS77_
         replace HS78_ := hcell hb HS78_
         replace HS79_ := hcell hb HS79_
         replace HS80_ := hcell hb HS80_
         replace HS81_ := hcell hb HS81_
         replace HS82_ := hcell hb HS82_
         replace HS83_ := hcell hb HS83_
         replace HS84_ := hcell hb HS84_
         replace HS85_ := hcell hb HS85_
         replace HS86_ := hcell hb HS86_
         replace HS87_ := hcell hb HS87_
         replace HS88_ := hcell hb HS88_
         replace HS89_ := hcell hb HS89_
         replace HS90_ := hcell hb HS90_
         replace HS91_ := hcell hb HS91_
         replace HS92_ := hcell hb HS92_
         replace HS93_ := hcell hb HS93_
         replace HS94_ := hcell hb HS94_
         replace HS95_ := hcell hb HS95_
         replace HS96_ := hcell hb HS96_
         replace HS97_ := hcell hb HS97_
         replace HS98_ := hcell hb HS98_
         replace HS99_ := hcell hb HS99_
         replace HS100_ := hcell hb HS100_
         replace HS101_ := hcell hb HS101_
         replace HS102_ := hcell hb HS102_
         replace HS103_ := hcell hb HS103_
         replace HS104_ := hcell hb HS104_
         refine ⟨_, rfl, ?_⟩
         replace HO_5 := As (Kd.S_elder' (by (with_reducible repeat (first | apply Kd.S_alloc | apply Kd.S_drewN | apply Kd.S_drew)); exact HO_5.out) (Kd.R_base ho0) hb)
         have HO356 := As (Kd.R_lower (Kd.R_new' ho0 (Kd.R_lt (kR HO_303013.out))) (below_size (kB1 HB.out GE302.out)))
         replace HO_303013 := As (Kd.R_elder' (kR HO_303013.out) (Kd.R_base ho0) hb)
         replace BK302 := As (blk_below (kb BK302.out) hb)
         replace HL359_13 := As (Kd.R_below (kR HL359_13.out) hb)
         replace HL360_13 := As (Kd.R_below (kR HL360_13.out) hb)
         replace HL361_13 := As (Kd.R_below (kR HL361_13.out) hb)
         replace HL362_13 := As (Kd.R_below (kR HL362_13.out) hb)
         replace HL363_13 := As (Kd.R_below (kR HL363_13.out) hb)
         replace HL364_13 := As (Kd.R_below (kR HL364_13.out) hb)
         replace HR359_13 := As (Kd.C_below (by repeat (first | (with_reducible exact HR359_13.out) | (with_reducible refine Kd.C_alloc ?_ _) | (with_reducible refine Kd.C_drewN ?_ _) | (with_reducible refine Kd.C_drew ?_) | exact HR359_13.out)) hb)
         replace HR360_13 := As (Kd.C_below (by repeat (first | (with_reducible exact HR360_13.out) | (with_reducible refine Kd.C_alloc ?_ _) | (with_reducible refine Kd.C_drewN ?_ _) | (with_reducible refine Kd.C_drew ?_) | exact HR360_13.out)) hb)
         replace HR361_13 := As (Kd.C_below (by repeat (first | (with_reducible exact HR361_13.out) | (with_reducible refine Kd.C_alloc ?_ _) | (with_reducible refine Kd.C_drewN ?_ _) | (with_reducible refine Kd.C_drew ?_) | exact HR361_13.out)) hb)
         replace HR362_13 := As (Kd.C_below (by repeat (first | (with_reducible exact HR362_13.out) | (with_reducible refine Kd.C_alloc ?_ _) | (with_reducible refine Kd.C_drewN ?_ _) | (with_reducible refine Kd.C_drew ?_) | exact HR362_13.out)) hb)
         replace HR363_13 := As (Kd.C_below (by repeat (first | (with_reducible exact HR363_13.out) | (with_reducible refine Kd.C_alloc ?_ _) | (with_reducible refine Kd.C_drewN ?_ _) | (with_reducible refine Kd.C_drew ?_) | exact HR363_13.out)) hb)
         replace HR364_13 := As (Kd.C_below (by repeat (first | (with_reducible exact HR364_13.out) | (with_reducible refine Kd.C_alloc ?_ _) | (with_reducible refine Kd.C_drewN ?_ _) | (with_reducible refine Kd.C_drew ?_) | exact HR364_13.out)) hb)
         replace HB := As (below_step (kB1 HB.out GE302.out) hb)
         (try clear hb)
         (try clear hb2)
         (try clear hk)
         (try clear hi)
         (try clear ho0)
         obtain ⟨Ao44, co44, eo44⟩ := Kd.R_slice HO356.out
         (first | subst eo44 | (injection eo44 with f1_ f2_ f3_; have f4_ := f1_.symm; have f5_ := f3_.symm; clear f1_ f2_ f3_; subst f4_; subst f5_))
         refine hK.out _ _ ⟨kC BK302.out 0, kC BK302.out 1, kC BK302.out 2, kC BK302.out 3, kC BK302.out 4, kC BK302.out 5, kC BK302.out 6, kC BK302.out 7, kC BK302.out 8, kC BK302.out 9, kC BK302.out 10, kC BK302.out 11, kC BK302.out 12, kC BK302.out 13, kC BK302.out 14, HS15_, HS16_, HS17_, HS18_, HS19_, HS20_, HS21_, HS22_, HS23_, HS24_, HS25_, HS26_, HS27_, HS28_, HS29_, HS30_, HS31_, HS32_, HS33_, HS34_, HS35_, HS36_, HS37_, HS38_, HS39_, HS40_, HS41_, HS42_, HS43_, HS44_, HS45_, HS46_, HS47_, HS48_, HS49_, HS50_, HS51_, HS52_, HS53_, HS54_, HS55_, HS56_, HS57_, HS58_, HS59_, HS60_, HS61_, HS62_, HS63_, HS64_, HS65_, HS66_, HS67_, HS68_, HS69_, HS70_, HS71_, HS72_, HS73_, HS74_, HS75_, HS76_, HS77_, HS78_, HS79_, HS80_, HS81_, HS82_, HS83_, HS84_, HS85_, HS86_, HS87_, HS88_, HS89_, HS90_, HS91_, HS92_, HS93_, HS94_, HS95_, HS96_, HS97_, HS98_, HS99_, HS100_, HS101_, HS102_, HS103_, HS104_⟩ (fun hHeld => ?_)
         clear hK K
         refine nP ?_
         refine one_ (i := 6) (N := some 52) #[I, I, I, I, I, I, I, O, O, O, O, O, O, O, O, O, O, O, O, O, O, O, O, O, O, O, O, O, O, O, O, O, O, O, O, O, O, O, O, O, O, O, O, O, O, O, O, O, O, O, O, O, O, O, O, O, O] rfl rfl (one_of HT_.out (by kernel_rfl)) (by decide) (fun K hK => ?_)
         refine goes_ Try.func13 (by kernel_rfl) rfl #[.agg #[.int .i64 t284, .int .i64 t285, .int .i64 t286, .int .i64 t287, .bool t288, .bool t289, .int .i64 t290, .bool t291, .int .u64 t292, .int .u64 t293, .bool t294, .int .u64 t295, .int .u64 t296, .slice Ao13 t297.length co13, .string t300], .agg #[.int .i64 t341, .int .i64 t342, .int .i64 t343, .int .i64 t344, .bool t345, .bool t346, .int .i64 t347, .bool t348, .int .u64 t349, .int .u64 t350, .bool t351, .int .u64 t352, .int .u64 t353, .slice Ao44 t354.length co44, .string t357]] (by rfl) rfl rfl kA ?_
         with_reducible refine (intrusionlaw11_same.calls kj6 t284 t285 t286 t287 t288 t289 t290 t291 t292 t293 t294 t295 t296 _ _ t297 t300 t341 t342 t343 t344 t345 t346 t347 t348 t349 t350 t351 t352 t353 _ _ t354 t357 true _ ?side1 ?side2 ?side3 ?side4 A27.out).mono ?_
         (case side1 => repeat (first | exact (Kd.R_reads' HO_303013.out).2.2 | (with_reducible refine Kd.C_alloc ?_ _) | (with_reducible refine Kd.C_drewN ?_ _) | (with_reducible refine Kd.C_drew ?_)))
         (case side2 => exact (Kd.R_reads' HO_303013.out).2.1)
         (case side3 => repeat (first | exact (Kd.R_reads' HO356.out).2.2 | (with_reducible refine Kd.C_alloc ?_ _) | (with_reducible refine Kd.C_drewN ?_ _) | (with_reducible refine Kd.C_drew ?_)))
         (case side4 => exact (Kd.R_reads' HO356.out).2.1)
         rintro e w45 ⟨rfl, hb⟩
         have ⟨_, _, _, _, _, _, _, _, _, _, _, _, _, _, _, HS15_, HS16_, HS17_, HS18_, HS19_, HS20_, HS21_, HS22_, HS23_, HS24_, HS25_, HS26_, HS27_, HS28_, HS29_, HS30_, HS31_, HS32_, HS33_, HS34_, HS35_, HS36_, HS37_, HS38_, HS39_, HS40_, HS41_, HS42_, HS43_, HS44_, HS45_, HS46_, HS47_, HS48_, HS49_, HS50_, HS51_, HS52_, HS53_, HS54_, HS55_, HS56_, HS57_, HS58_, HS59_, HS60_, HS61_, HS62_, HS63_, HS64_, HS65_, HS66_, HS67_, HS68_, HS69_, HS70_, HS71_, HS72_, HS73_, HS74_, HS75_, HS76_, HS77_, HS78_, HS79_, HS80_, HS81_, HS82_, HS83_, HS84_, HS85_, HS86_, HS87_, HS88_, HS89_, HS90_, HS91_, HS92_, HS93_, HS94_, HS95_, HS96_, HS97_, HS98_, HS99_, HS100_, HS101_, HS102_, HS103_, HS104_⟩ := hHeld
         replace HS15_ := hcell hb HS15_
         replace HS16_ := hcell hb HS16_
         replace HS17_ := hcell hb HS17_
         replace HS18_ := hcell hb HS18_
         replace HS19_ := hcell hb HS19_
         replace HS20_ := hcell hb HS20_
         replace HS21_ := hcell hb HS21_
         replace HS22_ := hcell hb HS22_
         replace HS23_ := hcell hb HS23_
         replace HS24_ := hcell hb HS24_
         replace HS25_ := hcell hb HS25_
         replace HS26_ := hcell hb HS26_
         replace HS27_ := hcell hb HS27_
         replace HS28_ := hcell hb HS28_
         replace HS29_ := hcell hb HS29_
         replace HS30_ := hcell hb HS30_
         replace HS31_ := hcell hb HS31_
         replace HS32_ := hcell hb HS32_
         replace HS33_ := hcell hb HS33_
         replace HS34_ := hcell hb HS34_
         replace HS35_ := hcell hb HS35_
         replace HS36_ := hcell hb HS36_
         replace HS37_ := hcell hb HS37_
         replace HS38_ := hcell hb HS38_
         replace HS39_ := hcell hb HS39_
         replace HS40_ := hcell hb HS40_
         replace HS41_ := hcell hb HS41_
         replace HS42_ := hcell hb HS42_
         replace HS43_ := hcell hb HS43_
         replace HS44_ := hcell hb HS44_
         replace HS45_ := hcell hb HS45_
         replace HS46_ := hcell hb HS46_
         replace HS47_ := hcell hb HS47_
         replace HS48_ := hcell hb HS48_
         replace HS49_ := hcell hb HS49_
         replace HS50_ := hcell hb HS50_
         replace HS51_ := hcell hb HS51_
         replace HS52_ := hcell hb HS52_
         replace HS53_ := hcell hb HS53_
         replace HS54_ := hcell hb HS54_
         replace HS55_ := hcell hb HS55_
         replace HS56_ := hcell hb HS56_
         replace HS57_ := hcell hb HS57_
         replace HS58_ := hcell hb HS58_
         replace HS59_ := hcell hb HS59_
         replace HS60_ := hcell hb HS60_
         replace HS61_ := hcell hb HS61_
         replace HS62_ := hcell hb HS62_
         replace HS63_ := hcell hb HS63_
         replace HS64_ := hcell hb HS64_
         replace HS65_ := hcell hb HS65_
         replace HS66_ := hcell hb HS66_
         replace HS67_ := hcell hb HS67_
         replace HS68_ := hcell hb HS68_
         replace HS69_ := hcell hb HS69_
         replace HS70_ := hcell hb HS70_
         replace HS71_ := hcell hb HS71_
         replace HS72_ := hcell hb HS72_
         replace HS73_ := hcell hb HS73_
         replace HS74_ := hcell hb HS74_
         replace HS75_ := hcell hb HS75_
         replace HS76_ := hcell hb HS76_
         replace HS77_ := hcell hb HS77_
         replace HS78_ := hcell hb HS78_
         replace HS79_ := hcell hb HS79_
         replace HS80_ := hcell hb HS80_
         replace HS81_ := hcell hb HS81_
         replace HS82_ := hcell hb HS82_
         replace HS83_ := hcell hb HS83_
         replace HS84_ := hcell hb HS84_
         replace HS85_ := hcell hb HS85_
         replace HS86_ := hcell hb HS86_
         replace HS87_ := hcell hb HS87_
         replace HS88_ := hcell hb HS88_
         replace HS89_ := hcell hb HS89_
         replace HS90_ := hcell hb HS90_
         replace HS91_ := hcell hb HS91_
         replace HS92_ := hcell hb HS92_
         replace HS93_ := hcell hb HS93_
         replace HS94_ := hcell hb HS94_
         replace HS95_ := hcell hb HS95_
         replace HS96_ := hcell hb HS96_
         replace HS97_ := hcell hb HS97_
         replace HS98_ := hcell hb HS98_
         replace HS99_ := hcell hb HS99_
         replace HS100_ := hcell hb HS100_
         replace HS101_ := hcell hb HS101_
         replace HS102_ := hcell hb HS102_
         replace HS103_ := hcell hb HS103_
         replace HS104_ := hcell hb HS104_
         refine ⟨_, rfl, ?_⟩
         replace HO_5 := As (Kd.S_below (by (with_reducible repeat (first | apply Kd.S_alloc | apply Kd.S_drewN | apply Kd.S_drew)); exact HO_5.out) hb)
         replace HO_303013 := As (Kd.R_below (kR HO_303013.out) hb)
         replace HO356 := As (Kd.R_below (kR HO356.out) hb)
         replace BK302 := As (blk_below (kb BK302.out) hb)
         replace HL359_13 := As (Kd.R_below (kR HL359_13.out) hb)
         replace HL360_13 := As (Kd.R_below (kR HL360_13.out) hb)
         replace HL361_13 := As (Kd.R_below (kR HL361_13.out) hb)
         replace HL362_13 := As (Kd.R_below (kR HL362_13.out) hb)
         replace HL363_13 := As (Kd.R_below (kR HL363_13.out) hb)
         replace HL364_13 := As (Kd.R_below (kR HL364_13.out) hb)
         replace HR359_13 := As (Kd.C_below (by repeat (first | (with_reducible exact HR359_13.out) | (with_reducible refine Kd.C_alloc ?_ _) | (with_reducible refine Kd.C_drewN ?_ _) | (with_reducible refine Kd.C_drew ?_) | exact HR359_13.out)) hb)
         replace HR360_13 := As (Kd.C_below (by repeat (first | (with_reducible exact HR360_13.out) | (with_reducible refine Kd.C_alloc ?_ _) | (with_reducible refine Kd.C_drewN ?_ _) | (with_reducible refine Kd.C_drew ?_) | exact HR360_13.out)) hb)
         replace HR361_13 := As (Kd.C_below (by repeat (first | (with_reducible exact HR361_13.out) | (with_reducible refine Kd.C_alloc ?_ _) | (with_reducible refine Kd.C_drewN ?_ _) | (with_reducible refine Kd.C_drew ?_) | exact HR361_13.out)) hb)
         replace HR362_13 := As (Kd.C_below (by repeat (first | (with_reducible exact HR362_13.out) | (with_reducible refine Kd.C_alloc ?_ _) | (with_reducible refine Kd.C_drewN ?_ _) | (with_reducible refine Kd.C_drew ?_) | exact HR362_13.out)) hb)
         replace HR363_13 := As (Kd.C_below (by repeat (first | (with_reducible exact HR363_13.out) | (with_reducible refine Kd.C_alloc ?_ _) | (with_reducible refine Kd.C_drewN ?_ _) | (with_reducible refine Kd.C_drew ?_) | exact HR363_13.out)) hb)
         replace HR364_13 := As (Kd.C_below (by repeat (first | (with_reducible exact HR364_13.out) | (with_reducible refine Kd.C_alloc ?_ _) | (with_reducible refine Kd.C_drewN ?_ _) | (with_reducible refine Kd.C_drew ?_) | exact HR364_13.out)) hb)
         replace HB := As (below_step (kB1 HB.out GE302.out) hb)
         (try clear hb)
         (try clear hb2)
         (try clear hk)
         (try clear hi)
         refine hK.out _ _ ⟨kC BK302.out 0, kC BK302.out 1, kC BK302.out 2, kC BK302.out 3, kC BK302.out 4, kC BK302.out 5, kC BK302.out 6, kC BK302.out 7, kC BK302.out 8, kC BK302.out 9, kC BK302.out 10, kC BK302.out 11, kC BK302.out 12, kC BK302.out 13, kC BK302.out 14, HS15_, HS16_, HS17_, HS18_, HS19_, HS20_, HS21_, HS22_, HS23_, HS24_, HS25_, HS26_, HS27_, HS28_, HS29_, HS30_, HS31_, HS32_, HS33_, HS34_, HS35_, HS36_, HS37_, HS38_, HS39_, HS40_, HS41_, HS42_, HS43_, HS44_, HS45_, HS46_, HS47_, HS48_, HS49_, HS50_, HS51_, HS52_, HS53_, HS54_, HS55_, HS56_, HS57_, HS58_, HS59_, HS60_, HS61_, HS62_, HS63_, HS64_, HS65_, HS66_, HS67_, HS68_, HS69_, HS70_, HS71_, HS72_, HS73_, HS74_, HS75_, HS76_, HS77_, HS78_, HS79_, HS80_, HS81_, HS82_, HS83_, HS84_, HS85_, HS86_, HS87_, HS88_, HS89_, HS90_, HS91_, HS92_, HS93_, HS94_, HS95_, HS96_, HS97_, HS98_, HS99_, HS100_, HS101_, HS102_, HS103_, HS104_⟩ (fun hHeld => ?_)
         clear hK K
         refine nP ?_
         refine kP 7 53 #[I, I, I, I, I, I, I, I, O, O, O, O, O, O, O, O, O, O, O, O, O, O, O, O, O, O, O, O, O, O, O, O, O, O, O, O, O, O, O, O, O, O, O, O, O, O, O, O, O, O, O, O, O, O, O, O, O] ?_ (any_of HT_.out (by kernel_rfl))
         refine kP 8 54 #[I, I, I, I, I, I, I, I, I, O, O, O, O, O, O, O, O, O, O, O, O, O, O, O, O, O, O, O, O, O, O, O, O, O, O, O, O, O, O, O, O, O, O, O, O, O, O, O, O, O, O, O, O, O, O, O, O] ?_ (any_of HT_.out (by kernel_rfl))
         refine kP 9 55 #[I, I, I, I, I, I, I, I, I, I, O, O, O, O, O, O, O, O, O, O, O, O, O, O, O, O, O, O, O, O, O, O, O, O, O, O, O, O, O, O, O, O, O, O, O, O, O, O, O, O, O, O, O, O, O, O, O] ?_ (any_of HT_.out (by kernel_rfl))
         refine kP 10 56 #[I, I, I, I, I, I, I, I, I, I, I, O, O, O, O, O, O, O, O, O, O, O, O, O, O, O, O, O, O, O, O, O, O, O, O, O, O, O, O, O, O, O, O, O, O, O, O, O, O, O, O, O, O, O, O, O, O] ?_ (any_of HT_.out (by kernel_rfl))
         refine kP 11 57 #[I, I, I, I, I, I, I, I, I, I, I, I, O, O, O, O, O, O, O, O, O, O, O, O, O, O, O, O, O, O, O, O, O, O, O, O, O, O, O, O, O, O, O, O, O, O, O, O, O, O, O, O, O, O, O, O, O] ?_ (any_of HT_.out (by kernel_rfl))
         refine take_ (i := 12) (N := some 58) (v := ?_) (a' := ?_) #[I, I, I, I, I, I, I, I, I, I, I, I, I, O, O, O, O, O, O, O, O, O, O, O, O, O, O, O, O, O, O, O, O, O, O, O, O, O, O, O, O, O, O, O, O, O, O, O, O, O, O, O, O, O, O, O, O] rfl rfl (take_ofW HT_.out HW_.out (by kernel_rfl)) (fun _ _ _ h => h) (Or.inl ⟨by rfl, ?_⟩) hHeld ?_ ?_
         rotate_left
         ·rintro w' ⟨s0, s1, s2, s3, s4, s5, s6, s7, s8, s9, s10, s11, s12, s13, s14, s15, s16, s17, s18, s19, s20, s21, s22, s23, s24, s25, s26, s27, s28, s29, s30, s31, s32, s33, s34, s35, s36, s37, s38, s39, s40, s41, s42, s43, s44, s45, s46, s47, s48, s49, s50, s51, s52, s53, s54, s55, s56, s57, s58, s59, s60, s61, s62, s63, s64, s65, s66, s67, s68, s69, s70, s71, s72, s73, s74, s75, s76, s77, s78, s79, s80, s81, s82, s83, s84, s85, s86, s87, s88, s89, s90, s91, s92, s93, s94, s95, s96, s97, s98, s99, s100, s101, s102, s103, s104⟩
          go_simp
          with_reducible rfl
         rotate_left
         ·simp only [Act.put, sA, sZ, sS, i64_w, i32_w]
          rfl
         refine kP 13 59 #[I, I, I, I, I, I, I, I, I, I, I, I, I, I, O, O, O, O, O, O, O, O, O, O, O, O, O, O, O, O, O, O, O, O, O, O, O, O, O, O, O, O, O, O, O, O, O, O, O, O, O, O, O, O, O, O, O] ?_ (any_of HT_.out (by kernel_rfl))
         refine kP 14 60 #[I, I, I, I, I, I, I, I, I, I, I, I, I, I, I, O, O, O, O, O, O, O, O, O, O, O, O, O, O, O, O, O, O, O, O, O, O, O, O, O, O, O, O, O, O, O, O, O, O, O, O, O, O, O, O, O, O] ?_ (any_of HT_.out (by kernel_rfl))
         refine kP 15 61 #[I, I, I, I, I, I, I, I, I, I, I, I, I, I, I, I, O, O, O, O, O, O, O, O, O, O, O, O, O, O, O, O, O, O, O, O, O, O, O, O, O, O, O, O, O, O, O, O, O, O, O, O, O, O, O, O, O] ?_ (any_of HT_.out (by kernel_rfl))
         refine kP 16 62 #[I, I, I, I, I, I, I, I, I, I, I, I, I, I, I, I, I, O, O, O, O, O, O, O, O, O, O, O, O, O, O, O, O, O, O, O, O, O, O, O, O, O, O, O, O, O, O, O, O, O, O, O, O, O, O, O, O] ?_ (any_of HT_.out (by kernel_rfl))
         refine kP 17 63 #[I, I, I, I, I, I, I, I, I, I, I, I, I, I, I, I, I, I, O, O, O, O, O, O, O, O, O, O, O, O, O, O, O, O, O, O, O, O, O, O, O, O, O, O, O, O, O, O, O, O, O, O, O, O, O, O, O] ?_ (any_of HT_.out (by kernel_rfl))
         refine kP 18 64 #[I, I, I, I, I, I, I, I, I, I, I, I, I, I, I, I, I, I, I, O, O, O, O, O, O, O, O, O, O, O, O, O, O, O, O, O, O, O, O, O, O, O, O, O, O, O, O, O, O, O, O, O, O, O, O, O, O] ?_ (any_of HT_.out (by kernel_rfl))
         refine take_ (i := 19) (N := some 65) (v := ?_) (a' := ?_) #[I, I, I, I, I, I, I, I, I, I, I, I, I, I, I, I, I, I, I, I, O, O, O, O, O, O, O, O, O, O, O, O, O, O, O, O, O, O, O, O, O, O, O, O, O, O, O, O, O, O, O, O, O, O, O, O, O] rfl rfl (take_ofW HT_.out HW_.out (by kernel_rfl)) (fun _ _ _ h => h) (Or.inl ⟨by rfl, ?_⟩) hHeld ?_ ?_
         rotate_left
         ·rintro w' ⟨s0, s1, s2, s3, s4, s5, s6, s7, s8, s9, s10, s11, s12, s13, s14, s15, s16, s17, s18, s19, s20, s21, s22, s23, s24, s25, s26, s27, s28, s29, s30, s31, s32, s33, s34, s35, s36, s37, s38, s39, s40, s41, s42, s43, s44, s45, s46, s47, s48, s49, s50, s51, s52, s53, s54, s55, s56, s57, s58, s59, s60, s61, s62, s63, s64, s65, s66, s67, s68, s69, s70, s71, s72, s73, s74, s75, s76, s77, s78, s79, s80, s81, s82, s83, s84, s85, s86, s87, s88, s89, s90, s91, s92, s93, s94, s95, s96, s97, s98, s99, s100, s101, s102, s103, s104⟩
          go_simp
          with_reducible rfl
         rotate_left
         ·simp only [Act.put, sA, sZ, sS, i64_w, i32_w]
          rfl
         refine kP 20 66 #[I, I, I, I, I, I, I, I, I, I, I, I, I, I, I, I, I, I, I, I, I, O, O, O, O, O, O, O, O, O, O, O, O, O, O, O, O, O, O, O, O, O, O, O, O, O, O, O, O, O, O, O, O, O, O, O, O] ?_ (any_of HT_.out (by kernel_rfl))
         refine kP 21 67 #[I, I, I, I, I, I, I, I, I, I, I, I, I, I, I, I, I, I, I, I, I, I, O, O, O, O, O, O, O, O, O, O, O, O, O, O, O, O, O, O, O, O, O, O, O, O, O, O, O, O, O, O, O, O, O, O, O] ?_ (any_of HT_.out (by kernel_rfl))
         refine kP 22 68 #[I, I, I, I, I, I, I, I, I, I, I, I, I, I, I, I, I, I, I, I, I, I, I, O, O, O, O, O, O, O, O, O, O, O, O, O, O, O, O, O, O, O, O, O, O, O, O, O, O, O, O, O, O, O, O, O, O] ?_ (any_of HT_.out (by kernel_rfl))
         refine kP 23 69 #[I, I, I, I, I, I, I, I, I, I, I, I, I, I, I, I, I, I, I, I, I, I, I, I, O, O, O, O, O, O, O, O, O, O, O, O, O, O, O, O, O, O, O, O, O, O, O, O, O, O, O, O, O, O, O, O, O] ?_ (any_of HT_.out (by kernel_rfl))
         refine kP 24 70 #[I, I, I, I, I, I, I, I, I, I, I, I, I, I, I, I, I, I, I, I, I, I, I, I, I, O, O, O, O, O, O, O, O, O, O, O, O, O, O, O, O, O, O, O, O, O, O, O, O, O, O, O, O, O, O, O, O] ?_ (any_of HT_.out (by kernel_rfl))
         refine kP 25 71 #[I, I, I, I, I, I, I, I, I, I, I, I, I, I, I, I, I, I, I, I, I, I, I, I, I, I, O, O, O, O, O, O, O, O, O, O, O, O, O, O, O, O, O, O, O, O, O, O, O, O, O, O, O, O, O, O, O] ?_ (any_of HT_.out (by kernel_rfl))
         refine take_ (i := 26) (N := some 72) (v := ?_) (a' := ?_) #[I, I, I, I, I, I, I, I, I, I, I, I, I, I, I, I, I, I, I, I, I, I, I, I, I, I, I, O, O, O, O, O, O, O, O, O, O, O, O, O, O, O, O, O, O, O, O, O, O, O, O, O, O, O, O, O, O] rfl rfl (take_ofW HT_.out HW_.out (by kernel_rfl)) (fun _ _ _ h => h) (Or.inl ⟨by rfl, ?_⟩) hHeld ?_ ?_
         rotate_left
         ·rintro w' ⟨s0, s1, s2, s3, s4, s5, s6, s7, s8, s9, s10, s11, s12, s13, s14, s15, s16, s17, s18, s19, s20, s21, s22, s23, s24, s25, s26, s27, s28, s29, s30, s31, s32, s33, s34, s35, s36, s37, s38, s39, s40, s41, s42, s43, s44, s45, s46, s47, s48, s49, s50, s51, s52, s53, s54, s55, s56, s57, s58, s59, s60, s61, s62, s63, s64, s65, s66, s67, s68, s69, s70, s71, s72, s73, s74, s75, s76, s77, s78, s79, s80, s81, s82, s83, s84, s85, s86, s87, s88, s89, s90, s91, s92, s93, s94, s95, s96, s97, s98, s99, s100, s101, s102, s103, s104⟩
          go_simp
          with_reducible rfl
         rotate_left
         ·simp only [Act.put, sA, sZ, sS, i64_w, i32_w]
          rfl
         refine kP 27 73 #[I, I, I, I, I, I, I, I, I, I, I, I, I, I, I, I, I, I, I, I, I, I, I, I, I, I, I, I, O, O, O, O, O, O, O, O, O, O, O, O, O, O, O, O, O, O, O, O, O, O, O, O, O, O, O, O, O] ?_ (any_of HT_.out (by kernel_rfl))
         refine kP 28 74 #[I, I, I, I, I, I, I, I, I, I, I, I, I, I, I, I, I, I, I, I, I, I, I, I, I, I, I, I, I, O, O, O, O, O, O, O, O, O, O, O, O, O, O, O, O, O, O, O, O, O, O, O, O, O, O, O, O] ?_ (any_of HT_.out (by kernel_rfl))
         refine kP 29 75 #[I, I, I, I, I, I, I, I, I, I, I, I, I, I, I, I, I, I, I, I, I, I, I, I, I, I, I, I, I, I, O, O, O, O, O, O, O, O, O, O, O, O, O, O, O, O, O, O, O, O, O, O, O, O, O, O, O] ?_ (any_of HT_.out (by kernel_rfl))
         refine kP 30 76 #[I, I, I, I, I, I, I, I, I, I, I, I, I, I, I, I, I, I, I, I, I, I, I, I, I, I, I, I, I, I, I, O, O, O, O, O, O, O, O, O, O, O, O, O, O, O, O, O, O, O, O, O, O, O, O, O, O] ?_ (any_of HT_.out (by kernel_rfl))
         refine kP 31 77 #[I, I, I, I, I, I, I, I, I, I, I, I, I, I, I, I, I, I, I, I, I, I, I, I, I, I, I, I, I, I, I, I, O, O, O, O, O, O, O, O, O, O, O, O, O, O, O, O, O, O, O, O, O, O, O, O, O] ?_ (any_of HT_.out (by kernel_rfl))
         refine kP 32 78 #[I, I, I, I, I, I, I, I, I, I, I, I, I, I, I, I, I, I, I, I, I, I, I, I, I, I, I, I, I, I, I, I, I, O, O, O, O, O, O, O, O, O, O, O, O, O, O, O, O, O, O, O, O, O, O, O, O] ?_ (any_of HT_.out (by kernel_rfl))
         refine take_ (i := 33) (N := some 79) (v := ?_) (a' := ?_) #[I, I, I, I, I, I, I, I, I, I, I, I, I, I, I, I, I, I, I, I, I, I, I, I, I, I, I, I, I, I, I, I, I, I, O, O, O, O, O, O, O, O, O, O, O, O, O, O, O, O, O, O, O, O, O, O, O] rfl rfl (take_ofW HT_.out HW_.out (by kernel_rfl)) (fun _ _ _ h => h) (Or.inl ⟨by rfl, ?_⟩) hHeld ?_ ?_
         rotate_left
         ·rintro w' ⟨s0, s1, s2, s3, s4, s5, s6, s7, s8, s9, s10, s11, s12, s13, s14, s15, s16, s17, s18, s19, s20, s21, s22, s23, s24, s25, s26, s27, s28, s29, s30, s31, s32, s33, s34, s35, s36, s37, s38, s39, s40, s41, s42, s43, s44, s45, s46, s47, s48, s49, s50, s51, s52, s53, s54, s55, s56, s57, s58, s59, s60, s61, s62, s63, s64, s65, s66, s67, s68, s69, s70, s71, s72, s73, s74, s75, s76, s77, s78, s79, s80, s81, s82, s83, s84, s85, s86, s87, s88, s89, s90, s91, s92, s93, s94, s95, s96, s97, s98, s99, s100, s101, s102, s103, s104⟩
          go_simp
          with_reducible rfl
         rotate_left
         ·simp only [Act.put, sA, sZ, sS, i64_w, i32_w]
          rfl
         refine kP 34 80 #[I, I, I, I, I, I, I, I, I, I, I, I, I, I, I, I, I, I, I, I, I, I, I, I, I, I, I, I, I, I, I, I, I, I, I, O, O, O, O, O, O, O, O, O, O, O, O, O, O, O, O, O, O, O, O, O, O] ?_ (any_of HT_.out (by kernel_rfl))
         refine kP 35 81 #[I, I, I, I, I, I, I, I, I, I, I, I, I, I, I, I, I, I, I, I, I, I, I, I, I, I, I, I, I, I, I, I, I, I, I, I, O, O, O, O, O, O, O, O, O, O, O, O, O, O, O, O, O, O, O, O, O] ?_ (any_of HT_.out (by kernel_rfl))
         refine kP 36 82 #[I, I, I, I, I, I, I, I, I, I, I, I, I, I, I, I, I, I, I, I, I, I, I, I, I, I, I, I, I, I, I, I, I, I, I, I, I, O, O, O, O, O, O, O, O, O, O, O, O, O, O, O, O, O, O, O, O] ?_ (any_of HT_.out (by kernel_rfl))
         refine kP 37 83 #[I, I, I, I, I, I, I, I, I, I, I, I, I, I, I, I, I, I, I, I, I, I, I, I, I, I, I, I, I, I, I, I, I, I, I, I, I, I, O, O, O, O, O, O, O, O, O, O, O, O, O, O, O, O, O, O, O] ?_ (any_of HT_.out (by kernel_rfl))
         refine kP 38 84 #[I, I, I, I, I, I, I, I, I, I, I, I, I, I, I, I, I, I, I, I, I, I, I, I, I, I, I, I, I, I, I, I, I, I, I, I, I, I, I, O, O, O, O, O, O, O, O, O, O, O, O, O, O, O, O, O, O] ?_ (any_of HT_.out (by kernel_rfl))
         refine take_ (i := 39) (N := some 85) (v := ?_) (a' := ?_) #[I, I, I, I, I, I, I, I, I, I, I, I, I, I, I, I, I, I, I, I, I, I, I, I, I, I, I, I, I, I, I, I, I, I, I, I, I, I, I, I, O, O, O, O, O, O, O, O, O, O, O, O, O, O, O, O, O] rfl rfl (take_ofW HT_.out HW_.out (by kernel_rfl)) (fun _ _ _ h => h) (Or.inl ⟨by rfl, ?_⟩) hHeld ?_ ?_
         rotate_left
         ·rintro w' ⟨s0, s1, s2, s3, s4, s5, s6, s7, s8, s9, s10, s11, s12, s13, s14, s15, s16, s17, s18, s19, s20, s21, s22, s23, s24, s25, s26, s27, s28, s29, s30, s31, s32, s33, s34, s35, s36, s37, s38, s39, s40, s41, s42, s43, s44, s45, s46, s47, s48, s49, s50, s51, s52, s53, s54, s55, s56, s57, s58, s59, s60, s61, s62, s63, s64, s65, s66, s67, s68, s69, s70, s71, s72, s73, s74, s75, s76, s77, s78, s79, s80, s81, s82, s83, s84, s85, s86, s87, s88, s89, s90, s91, s92, s93, s94, s95, s96, s97, s98, s99, s100, s101, s102, s103, s104⟩
          go_simp
          with_reducible rfl
         rotate_left
         ·simp only [Act.put, sA, sZ, sS, i64_w, i32_w]
          rfl
         refine kP 40 86 #[I, I, I, I, I, I, I, I, I, I, I, I, I, I, I, I, I, I, I, I, I, I, I, I, I, I, I, I, I, I, I, I, I, I, I, I, I, I, I, I, I, O, O, O, O, O, O, O, O, O, O, O, O, O, O, O, O] ?_ (any_of HT_.out (by kernel_rfl))
         refine kP 41 87 #[I, I, I, I, I, I, I, I, I, I, I, I, I, I, I, I, I, I, I, I, I, I, I, I, I, I, I, I, I, I, I, I, I, I, I, I, I, I, I, I, I, I, O, O, O, O, O, O, O, O, O, O, O, O, O, O, O] ?_ (any_of HT_.out (by kernel_rfl))
         refine kP 42 88 #[I, I, I, I, I, I, I, I, I, I, I, I, I, I, I, I, I, I, I, I, I, I, I, I, I, I, I, I, I, I, I, I, I, I, I, I, I, I, I, I, I, I, I, O, O, O, O, O, O, O, O, O, O, O, O, O, O] ?_ (any_of HT_.out (by kernel_rfl))
         refine kP 43 89 #[I, I, I, I, I, I, I, I, I, I, I, I, I, I, I, I, I, I, I, I, I, I, I, I, I, I, I, I, I, I, I, I, I, I, I, I, I, I, I, I, I, I, I, I, O, O, O, O, O, O, O, O, O, O, O, O, O] ?_ (any_of HT_.out (by kernel_rfl))
         refine kP 44 90 #[I, I, I, I, I, I, I, I, I, I, I, I, I, I, I, I, I, I, I, I, I, I, I, I, I, I, I, I, I, I, I, I, I, I, I, I, I, I, I, I, I, I, I, I, I, O, O, O, O, O, O, O, O, O, O, O, O] ?_ (any_of HT_.out (by kernel_rfl))
         refine take_ (i := 45) (N := some 91) (v := ?_) (a' := ?_) #[I, I, I, I, I, I, I, I, I, I, I, I, I, I, I, I, I, I, I, I, I, I, I, I, I, I, I, I, I, I, I, I, I, I, I, I, I, I, I, I, I, I, I, I, I, I, O, O, O, O, O, O, O, O, O, O, O] rfl rfl (take_ofW HT_.out HW_.out (by kernel_rfl)) (fun _ _ _ h => h) (Or.inl ⟨by rfl, ?_⟩) hHeld ?_ ?_
         rotate_left
         ·rintro w' ⟨s0, s1, s2, s3, s4, s5, s6, s7, s8, s9, s10, s11, s12, s13, s14, s15, s16, s17, s18, s19, s20, s21, s22, s23, s24, s25, s26, s27, s28, s29, s30, s31, s32, s33, s34, s35, s36, s37, s38, s39, s40, s41, s42, s43, s44, s45, s46, s47, s48, s49, s50, s51, s52, s53, s54, s55, s56, s57, s58, s59, s60, s61, s62, s63, s64, s65, s66, s67, s68, s69, s70, s71, s72, s73, s74, s75, s76, s77, s78, s79, s80, s81, s82, s83, s84, s85, s86, s87, s88, s89, s90, s91, s92, s93, s94, s95, s96, s97, s98, s99, s100, s101, s102, s103, s104⟩
          go_simp
          with_reducible rfl
         rotate_left
         ·simp only [Act.put, sA, sZ, sS, i64_w, i32_w]
          rfl
         refine one_ (i := 46) (N := some 92) #[I, I, I, I, I, I, I, I, I, I, I, I, I, I, I, I, I, I, I, I, I, I, I, I, I, I, I, I, I, I, I, I, I, I, I, I, I, I, I, I, I, I, I, I, I, I, I, O, O, O, O, O, O, O, O, O, O] rfl rfl (one_of HT_.out (by kernel_rfl)) (by decide) (fun K hK => ?_)
         refine goes_ Try.func17 (by kernel_rfl) rfl #[.agg #[.int .i64 ((rd_T28 t337 1).f0), .int .i64 ((rd_T28 t337 1).f1), .int .i64 ((rd_T28 t337 1).f2), .int .i64 ((rd_T28 t337 1).f3), .bool ((rd_T28 t337 1).f4), .bool true, .int .i64 ((rd_T28 t337 1).f6), .bool ((rd_T28 t337 1).f7.f0), .int .u64 ((rd_T28 t337 1).f7.f1), .int .u64 ((rd_T28 t337 1).f7.f2), .bool ((rd_T28 t337 1).f8.f0), .int .u64 ((rd_T28 t337 1).f8.f1), .int .u64 ((rd_T28 t337 1).f8.f2), .slice A359_13 ((rd_T28 t337 1).f9).length c359_13, .string ((rd_T28 t337 1).f10)]] (by rfl) rfl rfl kA ?_
         with_reducible refine (ipv4_Fragment.calls ((rd_T28 t337 1).f0) ((rd_T28 t337 1).f1) ((rd_T28 t337 1).f2) ((rd_T28 t337 1).f3) ((rd_T28 t337 1).f4) true ((rd_T28 t337 1).f6) ((rd_T28 t337 1).f7.f0) ((rd_T28 t337 1).f7.f1) ((rd_T28 t337 1).f7.f2) ((rd_T28 t337 1).f8.f0) ((rd_T28 t337 1).f8.f1) ((rd_T28 t337 1).f8.f2) _ _ ((rd_T28 t337 1).f9) ((rd_T28 t337 1).f10) t365 t366 t367 t368 t369 t370 t371 t372 t373 t374 t375 t376 _ ?side1 ?side2 A38.out).mono ?_
         (case side1 => repeat (first | exact (by repeat (first | (with_reducible exact HR364_13.out) | (with_reducible refine Kd.C_alloc ?_ _) | (with_reducible refine Kd.C_drewN ?_ _) | (with_reducible refine Kd.C_drew ?_) | exact HR364_13.out)) | (with_reducible refine Kd.C_alloc ?_ _) | (with_reducible refine Kd.C_drewN ?_ _) | (with_reducible refine Kd.C_drew ?_)))
         (case side2 => exact HC364_13.out)
         rintro e w46 ⟨rfl, hb⟩
         have ⟨_, _, _, _, _, _, _, _, _, _, _, _, _, _, _, HS15_, HS16_, HS17_, HS18_, HS19_, HS20_, HS21_, HS22_, HS23_, HS24_, HS25_, HS26_, HS27_, HS28_, HS29_, HS30_, HS31_, HS32_, HS33_, HS34_, HS35_, HS36_, HS37_, HS38_, HS39_, HS40_, HS41_, HS42_, HS43_, HS44_, HS45_, HS46_, HS47_, HS48_, HS49_, HS50_, HS51_, HS52_, HS53_, HS54_, HS55_, HS56_, HS57_, HS58_, HS59_, HS60_, HS61_, HS62_, HS63_, HS64_, HS65_, HS66_, HS67_, HS68_, HS69_, HS70_, HS71_, HS72_, HS73_, HS74_, HS75_, HS76_, HS77_, HS78_, HS79_, HS80_, HS81_, HS82_, HS83_, HS84_, HS85_, HS86_, HS87_, HS88_, HS89_, HS90_, HS91_, HS92_, HS93_, HS94_, HS95_, HS96_, HS97_, HS98_, HS99_, HS100_, HS101_, HS102_, HS103_, HS104_⟩ := hHeld
         replace HS15_ := hcell hb HS15_
         replace HS16_ := hcell hb HS16_
         replace HS17_ := hcell hb HS17_
         replace HS18_ := hcell hb HS18_
         replace HS19_ := hcell hb HS19_
         replace HS20_ := hcell hb HS20_
         replace HS21_ := hcell hb HS21_
         replace HS22_ := hcell hb HS22_
         replace HS23_ := hcell hb HS23_
         replace HS24_ := hcell hb HS24_
         replace HS25_ := hcell hb HS25_
         replace HS26_ := hcell hb HS26_
         replace HS27_ := hcell hb HS27_
         replace HS28_ := hcell hb HS28_
         replace HS29_ := hcell hb HS29_
         replace HS30_ := hcell hb HS30_
         replace HS31_ := hcell hb HS31_
         replace HS32_ := hcell hb HS32_
         replace HS33_ := hcell hb HS33_
         replace HS34_ := hcell hb HS34_
         replace HS35_ := hcell hb HS35_
         replace HS36_ := hcell hb HS36_
         replace HS37_ := hcell hb HS37_
         replace HS38_ := hcell hb HS38_
         replace HS39_ := hcell hb HS39_
         replace HS40_ := hcell hb HS40_
         replace HS41_ := hcell hb HS41_
         replace HS42_ := hcell hb HS42_
         replace HS43_ := hcell hb HS43_
         replace HS44_ := hcell hb HS44_
         replace HS45_ := hcell hb HS45_
         replace HS46_ := hcell hb HS46_
         replace HS47_ := hcell hb HS47_
         replace HS48_ := hcell hb HS48_
         replace HS49_ := hcell hb HS49_
         replace HS50_ := hcell hb HS50_
         replace HS51_ := hcell hb HS51_
         replace HS52_ := hcell hb HS52_
         replace HS53_ := hcell hb HS53_
         replace HS54_ := hcell hb HS54_
         replace HS55_ := hcell hb HS55_
         replace HS56_ := hcell hb HS56_
         replace HS57_ := hcell hb HS57_
         replace HS58_ := hcell hb HS58_
         replace HS59_ := hcell hb HS59_
         replace HS60_ := hcell hb HS60_
         replace HS61_ := hcell hb HS61_
         replace HS62_ := hcell hb HS62_
         replace HS63_ := hcell hb HS63_
         replace HS64_ := hcell hb HS64_
         replace HS65_ := hcell hb HS65_
         replace HS66_ := hcell hb HS66_
         replace HS67_ := hcell hb HS67_
         replace HS68_ := hcell hb HS68_
         replace HS69_ := hcell hb HS69_
         replace HS70_ := hcell hb HS70_
         replace HS71_ := hcell hb HS71_
         replace HS72_ := hcell hb HS72_
         replace HS73_ := hcell hb HS73_
         replace HS74_ := hcell hb HS74_
         replace HS75_ := hcell hb HS75_
         replace HS76_ := hcell hb HS76_
         replace HS77_ := hcell hb HS77_
         replace HS78_ := hcell hb HS78_
         replace HS79_ := hcell hb HS79_
         replace HS80_ := hcell hb HS80_
         replace HS81_ := hcell hb HS81_
         replace HS82_ := hcell hb HS82_
         replace HS83_ := hcell hb HS83_
         replace HS84_ := hcell hb HS84_
         replace HS85_ := hcell hb HS85_
         replace HS86_ := hcell hb HS86_
         replace HS87_ := hcell hb HS87_
         replace HS88_ := hcell hb HS88_
         replace HS89_ := hcell hb HS89_
         replace HS90_ := hcell hb HS90_
         replace HS91_ := hcell hb HS91_
         replace HS92_ := hcell hb HS92_
         replace HS93_ := hcell hb HS93_
         replace HS94_ := hcell hb HS94_
         replace HS95_ := hcell hb HS95_
         replace HS96_ := hcell hb HS96_
         replace HS97_ := hcell hb HS97_
         replace HS98_ := hcell hb HS98_
         replace HS99_ := hcell hb HS99_
         replace HS100_ := hcell hb HS100_
         replace HS101_ := hcell hb HS101_
         replace HS102_ := hcell hb HS102_
         replace HS103_ := hcell hb HS103_
         replace HS104_ := hcell hb HS104_
         refine ⟨_, rfl, ?_⟩
         replace HO_5 := As (Kd.S_below (by (with_reducible repeat (first | apply Kd.S_alloc | apply Kd.S_drewN | apply Kd.S_drew)); exact HO_5.out) hb)
         replace HO_303013 := As (Kd.R_below (kR HO_303013.out) hb)
         replace HO356 := As (Kd.R_below (kR HO356.out) hb)
         replace HL359_13 := As (Kd.R_below (kR HL359_13.out) hb)
         replace HL360_13 := As (Kd.R_below (kR HL360_13.out) hb)
         replace HL361_13 := As (Kd.R_below (kR HL361_13.out) hb)
         replace HL362_13 := As (Kd.R_below (kR HL362_13.out) hb)
         replace HL363_13 := As (Kd.R_below (kR HL363_13.out) hb)
         replace HL364_13 := As (Kd.R_below (kR HL364_13.out) hb)
         replace BK302 := As (blk_below (kb BK302.out) hb)
         replace HR359_13 := As (Kd.C_below (by repeat (first | (with_reducible exact HR359_13.out) | (with_reducible refine Kd.C_alloc ?_ _) | (with_reducible refine Kd.C_drewN ?_ _) | (with_reducible refine Kd.C_drew ?_) | exact HR359_13.out)) hb)
         replace HR360_13 := As (Kd.C_below (by repeat (first | (with_reducible exact HR360_13.out) | (with_reducible refine Kd.C_alloc ?_ _) | (with_reducible refine Kd.C_drewN ?_ _) | (with_reducible refine Kd.C_drew ?_) | exact HR360_13.out)) hb)
         replace HR361_13 := As (Kd.C_below (by repeat (first | (with_reducible exact HR361_13.out) | (with_reducible refine Kd.C_alloc ?_ _) | (with_reducible refine Kd.C_drewN ?_ _) | (with_reducible refine Kd.C_drew ?_) | exact HR361_13.out)) hb)
         replace HR362_13 := As (Kd.C_below (by repeat (first | (with_reducible exact HR362_13.out) | (with_reducible refine Kd.C_alloc ?_ _) | (with_reducible refine Kd.C_drewN ?_ _) | (with_reducible refine Kd.C_drew ?_) | exact HR362_13.out)) hb)
         replace HR363_13 := As (Kd.C_below (by repeat (first | (with_reducible exact HR363_13.out) | (with_reducible refine Kd.C_alloc ?_ _) | (with_reducible refine Kd.C_drewN ?_ _) | (with_reducible refine Kd.C_drew ?_) | exact HR363_13.out)) hb)
         replace HR364_13 := As (Kd.C_below (by repeat (first | (with_reducible exact HR364_13.out) | (with_reducible refine Kd.C_alloc ?_ _) | (with_reducible refine Kd.C_drewN ?_ _) | (with_reducible refine Kd.C_drew ?_) | exact HR364_13.out)) hb)
         replace HB := As (below_step (kB1 HB.out GE302.out) hb)
         (try clear hb)
         (try clear hb2)
         (try clear hk)
         (try clear hi)
         refine hK.out _ _ ⟨kC BK302.out 0, kC BK302.out 1, kC BK302.out 2, kC BK302.out 3, kC BK302.out 4, kC BK302.out 5, kC BK302.out 6, kC BK302.out 7, kC BK302.out 8, kC BK302.out 9, kC BK302.out 10, kC BK302.out 11, kC BK302.out 12, kC BK302.out 13, kC BK302.out 14, HS15_, HS16_, HS17_, HS18_, HS19_, HS20_, HS21_, HS22_, HS23_, HS24_, HS25_, HS26_, HS27_, HS28_, HS29_, HS30_, HS31_, HS32_, HS33_, HS34_, HS35_, HS36_, HS37_, HS38_, HS39_, HS40_, HS41_, HS42_, HS43_, HS44_, HS45_, HS46_, HS47_, HS48_, HS49_, HS50_, HS51_, HS52_, HS53_, HS54_, HS55_, HS56_, HS57_, HS58_, HS59_, HS60_, HS61_, HS62_, HS63_, HS64_, HS65_, HS66_, HS67_, HS68_, HS69_, HS70_, HS71_, HS72_, HS73_, HS74_, HS75_, HS76_, HS77_, HS78_, HS79_, HS80_, HS81_, HS82_, HS83_, HS84_, HS85_, HS86_, HS87_, HS88_, HS89_, HS90_, HS91_, HS92_, HS93_, HS94_, HS95_, HS96_, HS97_, HS98_, HS99_, HS100_, HS101_, HS102_, HS103_, HS104_⟩ (fun hHeld => ?_)
         clear hK K
         refine nP ?_
         refine kP 47 93 #[I, I, I, I, I, I, I, I, I, I, I, I, I, I, I, I, I, I, I, I, I, I, I, I, I, I, I, I, I, I, I, I, I, I, I, I, I, I, I, I, I, I, I, I, I, I, I, I, O, O, O, O, O, O, O, O, O] ?_ (any_of HT_.out (by kernel_rfl))
         refine kP 48 94 #[I, I, I, I, I, I, I, I, I, I, I, I, I, I, I, I, I, I, I, I, I, I, I, I, I, I, I, I, I, I, I, I, I, I, I, I, I, I, I, I, I, I, I, I, I, I, I, I, I, O, O, O, O, O, O, O, O] ?_ (any_of HT_.out (by kernel_rfl))
         refine kP 49 95 #[I, I, I, I, I, I, I, I, I, I, I, I, I, I, I, I, I, I, I, I, I, I, I, I, I, I, I, I, I, I, I, I, I, I, I, I, I, I, I, I, I, I, I, I, I, I, I, I, I, I, O, O, O, O, O, O, O] ?_ (any_of HT_.out (by kernel_rfl))
         refine kP 50 96 #[I, I, I, I, I, I, I, I, I, I, I, I, I, I, I, I, I, I, I, I, I, I, I, I, I, I, I, I, I, I, I, I, I, I, I, I, I, I, I, I, I, I, I, I, I, I, I, I, I, I, I, O, O, O, O, O, O] ?_ (any_of HT_.out (by kernel_rfl))
         refine kP 51 97 #[I, I, I, I, I, I, I, I, I, I, I, I, I, I, I, I, I, I, I, I, I, I, I, I, I, I, I, I, I, I, I, I, I, I, I, I, I, I, I, I, I, I, I, I, I, I, I, I, I, I, I, I, O, O, O, O, O] ?_ (any_of HT_.out (by kernel_rfl))
         refine one_ (i := 52) (N := some 98) #[I, I, I, I, I, I, I, I, I, I, I, I, I, I, I, I, I, I, I, I, I, I, I, I, I, I, I, I, I, I, I, I, I, I, I, I, I, I, I, I, I, I, I, I, I, I, I, I, I, I, I, I, I, O, O, O, O] rfl rfl (one_of HT_.out (by kernel_rfl)) (by decide) (fun K hK => ?_)
         refine Kd.R_lit_step k50 _ 50 rfl (N := 98) rfl (xs := ([(⟨131, (⟨#[]⟩ : ByteArray)⟩ : S50)] : List (S50))) (inner := [.int .i64 131, .string (⟨#[]⟩ : ByteArray)]) (ok := fun _ => True) (okp := fun _ => True) kG ?hp (fun _ hk => hk) trivial (Below.refl _ _) (Nat.le_refl _) (by simp) ?_; (case hp => exact (Reps.c2 (show Kd.M k50 _ _ _ (⟨131, (⟨#[]⟩ : ByteArray)⟩ : S50) [.int .i64 131, .string (⟨#[]⟩ : ByteArray)] from (k50_mkM _ _ _ (⟨131, (⟨#[]⟩ : ByteArray)⟩ : S50) )) (Reps.none _ _)))
         intro v378 w47 ho48 hb hg_ hnew_
         have ⟨_, _, _, _, _, _, _, _, _, _, _, _, _, _, _, HS15_, HS16_, HS17_, HS18_, HS19_, HS20_, HS21_, HS22_, HS23_, HS24_, HS25_, HS26_, HS27_, HS28_, HS29_, HS30_, HS31_, HS32_, HS33_, HS34_, HS35_, HS36_, HS37_, HS38_, HS39_, HS40_, HS41_, HS42_, HS43_, HS44_, HS45_, HS46_, HS47_, HS48_, HS49_, HS50_, HS51_, HS52_, HS53_, HS54_, HS55_, HS56_, HS57_, HS58_, HS59_, HS60_, HS61_, HS62_, HS63_, HS64_, HS65_, HS66_, HS67_, HS68_, HS69_, HS70_, HS71_, HS72_, HS73_, HS74_, HS75_, HS76_, HS77_, HS78_, HS79_, HS80_, HS81_, HS82_, HS83_, HS84_, HS85_, HS86_, HS87_, HS88_, HS89_, HS90_, HS91_, HS92_, HS93_, HS94_, HS95_, HS96_, HS97_, HS98_, HS99_, HS100_, HS101_, HS102_, HS103_, HS104_⟩ := hHeld
         replace HS15_ := hcell hb HS15_
         replace HS16_ := hcell hb HS16_
         replace HS17_ := hcell hb HS17_
         replace HS18_ := hcell hb HS18_
         replace HS19_ := hcell hb HS19_
         replace HS20_ := hcell hb HS20_
         replace HS21_ := hcell hb HS21_
         replace HS22_ := hcell hb HS22_
         replace HS23_ := hcell hb HS23_
         replace HS24_ := hcell hb HS24_
         replace HS25_ := hcell hb HS25_
         replace HS26_ := hcell hb HS26_
         replace HS27_ := hcell hb HS27_
         replace HS28_ := hcell hb HS28_
         replace HS29_ := hcell hb HS29_
         replace HS30_ := hcell hb HS30_
         replace HS31_ := hcell hb HS31_
         replace HS32_ := hcell hb HS32_
         replace HS33_ := hcell hb HS33_
         replace HS34_ := hcell hb HS34_
         replace HS35_ := hcell hb HS35_
         replace HS36_ := hcell hb HS36_
         replace HS37_ := hcell hb HS37_
         replace HS38_ := hcell hb HS38_
         replace HS39_ := hcell hb HS39_
         replace HS40_ := hcell hb HS40_
         replace HS41_ := hcell hb HS41_
         replace HS42_ := hcell hb HS42_
         replace HS43_ := hcell hb HS43_
         replace HS44_ := hcell hb HS44_
         replace HS45_ := hcell hb HS45_
         replace HS46_ := hcell hb HS46_
         replace HS47_ := hcell hb HS47_
         replace HS48_ := hcell hb HS48_
         replace HS49_ := hcell hb HS49_
         replace HS50_ := hcell hb HS50_
         replace HS51_ := hcell hb HS51_
         replace HS52_ := hcell hb HS52_
         replace HS53_ := hcell hb HS53_
         replace HS54_ := hcell hb HS54_
         replace HS55_ := hcell hb HS55_
         replace HS56_ := hcell hb HS56_
         replace HS57_ := hcell hb HS57_
         replace HS58_ := hcell hb HS58_
         replace HS59_ := hcell hb HS59_
         replace HS60_ := hcell hb HS60_
         replace HS61_ := hcell hb HS61_
         replace HS62_ := hcell hb HS62_
         replace HS63_ := hcell hb HS63_
         replace HS64_ := hcell hb HS64_
         replace HS65_ := hcell hb HS65_
         replace HS66_ := hcell hb HS66_
         replace HS67_ := hcell hb HS67_
         replace HS68_ := hcell hb HS68_
         replace HS69_ := hcell hb HS69_
         replace HS70_ := hcell hb HS70_
         replace HS71_ := hcell hb HS71_
         replace HS72_ := hcell hb HS72_
         replace HS73_ := hcell hb HS73_
         replace HS74_ := hcell hb HS74_
         replace HS75_ := hcell hb HS75_
         replace HS76_ := hcell hb HS76_
         replace HS77_ := hcell hb HS77_
         replace HS78_ := hcell hb HS78_
         replace HS79_ := hcell hb HS79_
         replace HS80_ := hcell hb HS80_
         replace HS81_ := hcell hb HS81_
         replace HS82_ := hcell hb HS82_
         replace HS83_ := hcell hb HS83_
         replace HS84_ := hcell hb HS84_
         replace HS85_ := hcell hb HS85_
         replace HS86_ := hcell hb HS86_
         replace HS87_ := hcell hb HS87_
         replace HS88_ := hcell hb HS88_
         replace HS89_ := hcell hb HS89_
         replace HS90_ := hcell hb HS90_
         replace HS91_ := hcell hb HS91_
         replace HS92_ := hcell hb HS92_
         replace HS93_ := hcell hb HS93_
         replace HS94_ := hcell hb HS94_
         replace HS95_ := hcell hb HS95_
         replace HS96_ := hcell hb HS96_
         replace HS97_ := hcell hb HS97_
         replace HS98_ := hcell hb HS98_
         replace HS99_ := hcell hb HS99_
         replace HS100_ := hcell hb HS100_
         replace HS101_ := hcell hb HS101_
         replace HS102_ := hcell hb HS102_
         replace HS103_ := hcell hb HS103_
         replace HS104_ := hcell hb HS104_
         clear hg_ hnew_
         (first | rw [← Ny377.out] at ho48 | (simp only [Int.reduceToNat] at ho48; rw [← Ny377.out] at ho48))
         replace HO_5 := As (Kd.S_elder' (by (with_reducible repeat (first | apply Kd.S_alloc | apply Kd.S_drewN | apply Kd.S_drew)); exact HO_5.out) (Kd.R_base ho48) hb)
         have HO379 := As (Kd.R_lower (Kd.R_new' (Kd.R_new' (Kd.R_new' (Kd.R_new' (Kd.R_new' (Kd.R_new' (Kd.R_new' (Kd.R_new' ho48 (Kd.R_lt (kR HO_303013.out))) (Kd.R_lt (kR HO356.out))) (Kd.R_lt (kR HL359_13.out))) (Kd.R_lt (kR HL360_13.out))) (Kd.R_lt (kR HL361_13.out))) (Kd.R_lt (kR HL362_13.out))) (Kd.R_lt (kR HL363_13.out))) (Kd.R_lt (kR HL364_13.out))) (below_size (kB1 HB.out GE302.out)))
         replace HO_303013 := As (Kd.R_elder' (kR HO_303013.out) (Kd.R_base ho48) hb)
         replace HO356 := As (Kd.R_elder' (kR HO356.out) (Kd.R_base ho48) hb)
         replace HL359_13 := As (Kd.R_elder' (kR HL359_13.out) (Kd.R_base ho48) hb)
         replace HL360_13 := As (Kd.R_elder' (kR HL360_13.out) (Kd.R_base ho48) hb)
         replace HL361_13 := As (Kd.R_elder' (kR HL361_13.out) (Kd.R_base ho48) hb)
         replace HL362_13 := As (Kd.R_elder' (kR HL362_13.out) (Kd.R_base ho48) hb)
         replace HL363_13 := As (Kd.R_elder' (kR HL363_13.out) (Kd.R_base ho48) hb)
         replace HL364_13 := As (Kd.R_elder' (kR HL364_13.out) (Kd.R_base ho48) hb)
         replace BK302 := As (blk_below (kb BK302.out) hb)
         replace HR359_13 := As (Kd.C_below (by repeat (first | (with_reducible exact HR359_13.out) | (with_reducible refine Kd.C_alloc ?_ _) | (with_reducible refine Kd.C_drewN ?_ _) | (with_reducible refine Kd.C_drew ?_) | exact HR359_13.out)) hb)
         replace HR360_13 := As (Kd.C_below (by repeat (first | (with_reducible exact HR360_13.out) | (with_reducible refine Kd.C_alloc ?_ _) | (with_reducible refine Kd.C_drewN ?_ _) | (with_reducible refine Kd.C_drew ?_) | exact HR360_13.out)) hb)
         replace HR361_13 := As (Kd.C_below (by repeat (first | (with_reducible exact HR361_13.out) | (with_reducible refine Kd.C_alloc ?_ _) | (with_reducible refine Kd.C_drewN ?_ _) | (with_reducible refine Kd.C_drew ?_) | exact HR361_13.out)) hb)
         replace HR362_13 := As (Kd.C_below (by repeat (first | (with_reducible exact HR362_13.out) | (with_reducible refine Kd.C_alloc ?_ _) | (with_reducible refine Kd.C_drewN ?_ _) | (with_reducible refine Kd.C_drew ?_) | exact HR362_13.out)) hb)
         replace HR363_13 := As (Kd.C_below (by repeat (first | (with_reducible exact HR363_13.out) | (with_reducible refine Kd.C_alloc ?_ _) | (with_reducible refine Kd.C_drewN ?_ _) | (with_reducible refine Kd.C_drew ?_) | exact HR363_13.out)) hb)
         replace HR364_13 := As (Kd.C_below (by repeat (first | (with_reducible exact HR364_13.out) | (with_reducible refine Kd.C_alloc ?_ _) | (with_reducible refine Kd.C_drewN ?_ _) | (with_reducible refine Kd.C_drew ?_) | exact HR364_13.out)) hb)
         replace HB := As (below_step (kB1 HB.out GE302.out) hb)
         clear hb ho48
         obtain ⟨Ao49, co49, eo49⟩ := Kd.R_slice HO379.out
         (first | subst eo49 | (injection eo49 with f1_ f2_ f3_; have f4_ := f1_.symm; have f5_ := f3_.symm; clear f1_ f2_ f3_; subst f4_; subst f5_))
         refine hK.out _ _ ⟨kC BK302.out 0, kC BK302.out 1, kC BK302.out 2, kC BK302.out 3, kC BK302.out 4, kC BK302.out 5, kC BK302.out 6, kC BK302.out 7, kC BK302.out 8, kC BK302.out 9, kC BK302.out 10, kC BK302.out 11, kC BK302.out 12, kC BK302.out 13, kC BK302.out 14, HS15_, HS16_, HS17_, HS18_, HS19_, HS20_, HS21_, HS22_, HS23_, HS24_, HS25_, HS26_, HS27_, HS28_, HS29_, HS30_, HS31_, HS32_, HS33_, HS34_, HS35_, HS36_, HS37_, HS38_, HS39_, HS40_, HS41_, HS42_, HS43_, HS44_, HS45_, HS46_, HS47_, HS48_, HS49_, HS50_, HS51_, HS52_, HS53_, HS54_, HS55_, HS56_, HS57_, HS58_, HS59_, HS60_, HS61_, HS62_, HS63_, HS64_, HS65_, HS66_, HS67_, HS68_, HS69_, HS70_, HS71_, HS72_, HS73_, HS74_, HS75_, HS76_, HS77_, HS78_, HS79_, HS80_, HS81_, HS82_, HS83_, HS84_, HS85_, HS86_, HS87_, HS88_, HS89_, HS90_, HS91_, HS92_, HS93_, HS94_, HS95_, HS96_, HS97_, HS98_, HS99_, HS100_, HS101_, HS102_, HS103_, HS104_⟩ (fun hHeld => ?_)
         clear hK K
         refine nP ?_
         refine kP 53 99 #[I, I, I, I, I, I, I, I, I, I, I, I, I, I, I, I, I, I, I, I, I, I, I, I, I, I, I, I, I, I, I, I, I, I, I, I, I, I, I, I, I, I, I, I, I, I, I, I, I, I, I, I, I, I, O, O, O] ?_ (any_of HT_.out (by kernel_rfl))
         refine one_ (i := 54) (N := some 100) #[I, I, I, I, I, I, I, I, I, I, I, I, I, I, I, I, I, I, I, I, I, I, I, I, I, I, I, I, I, I, I, I, I, I, I, I, I, I, I, I, I, I, I, I, I, I, I, I, I, I, I, I, I, I, I, O, O] rfl rfl (one_of HT_.out (by kernel_rfl)) (by decide) (fun K hK => ?_)
         refine goes_ Try.func19 (by kernel_rfl) rfl #[.agg #[.int .i64 0, .int .i64 0, .int .i64 0, .int .i64 0, .bool false, .bool false, .int .i64 0, .bool false, .int .u64 0, .int .u64 0, .bool false, .int .u64 0, .int .u64 0, .slice Ao49 y377.length co49, .string (⟨#[]⟩ : ByteArray)]] (by rfl) rfl rfl kA ?_
         with_reducible refine (ipv4_Routed.calls kj6 0 0 0 0 false false 0 false 0 0 false 0 0 _ _ y377 (⟨#[]⟩ : ByteArray) t380 _ ?side1 ?side2 A40.out).mono ?_
         (case side1 => repeat (first | exact (Kd.R_reads' HO379.out).2.2 | (with_reducible refine Kd.C_alloc ?_ _) | (with_reducible refine Kd.C_drewN ?_ _) | (with_reducible refine Kd.C_drew ?_)))
         (case side2 => exact (Kd.R_reads' HO379.out).2.1)
         rintro e w50 ⟨rfl, hb⟩
         have ⟨_, _, _, _, _, _, _, _, _, _, _, _, _, _, _, HS15_, HS16_, HS17_, HS18_, HS19_, HS20_, HS21_, HS22_, HS23_, HS24_, HS25_, HS26_, HS27_, HS28_, HS29_, HS30_, HS31_, HS32_, HS33_, HS34_, HS35_, HS36_, HS37_, HS38_, HS39_, HS40_, HS41_, HS42_, HS43_, HS44_, HS45_, HS46_, HS47_, HS48_, HS49_, HS50_, HS51_, HS52_, HS53_, HS54_, HS55_, HS56_, HS57_, HS58_, HS59_, HS60_, HS61_, HS62_, HS63_, HS64_, HS65_, HS66_, HS67_, HS68_, HS69_, HS70_, HS71_, HS72_, HS73_, HS74_, HS75_, HS76_, HS77_, HS78_, HS79_, HS80_, HS81_, HS82_, HS83_, HS84_, HS85_, HS86_, HS87_, HS88_, HS89_, HS90_, HS91_, HS92_, HS93_, HS94_, HS95_, HS96_, HS97_, HS98_, HS99_, HS100_, HS101_, HS102_, HS103_, HS104_⟩ := hHeld
         replace HS15_ := hcell hb HS15_
         replace HS16_ := hcell hb HS16_
         replace HS17_ := hcell hb HS17_
         replace HS18_ := hcell hb HS18_
         replace HS19_ := hcell hb HS19_
         replace HS20_ := hcell hb HS20_
         replace HS21_ := hcell hb HS21_
         replace HS22_ := hcell hb HS22_
         replace HS23_ := hcell hb HS23_
         replace HS24_ := hcell hb HS24_
         replace HS25_ := hcell hb HS25_
         replace HS26_ := hcell hb HS26_
         replace HS27_ := hcell hb HS27_
         replace HS28_ := hcell hb HS28_
         replace HS29_ := hcell hb HS29_
         replace HS30_ := hcell hb HS30_
         replace HS31_ := hcell hb HS31_
         replace HS32_ := hcell hb HS32_
         replace HS33_ := hcell hb HS33_
         replace HS34_ := hcell hb HS34_
         replace HS35_ := hcell hb HS35_
         replace HS36_ := hcell hb HS36_
         replace HS37_ := hcell hb HS37_
         replace HS38_ := hcell hb HS38_
         replace HS39_ := hcell hb HS39_
         replace HS40_ := hcell hb HS40_
         replace HS41_ := hcell hb HS41_
         replace HS42_ := hcell hb HS42_
         replace HS43_ := hcell hb HS43_
         replace HS44_ := hcell hb HS44_
         replace HS45_ := hcell hb HS45_
         replace HS46_ := hcell hb HS46_
         replace HS47_ := hcell hb HS47_
         replace HS48_ := hcell hb HS48_
         replace HS49_ := hcell hb HS49_
         replace HS50_ := hcell hb HS50_
         replace HS51_ := hcell hb HS51_
         replace HS52_ := hcell hb HS52_
         replace HS53_ := hcell hb HS53_
         replace HS54_ := hcell hb HS54_
         replace HS55_ := hcell hb HS55_
         replace HS56_ := hcell hb HS56_
         replace HS57_ := hcell hb HS57_
         replace HS58_ := hcell hb HS58_
         replace HS59_ := hcell hb HS59_
         replace HS60_ := hcell hb HS60_
         replace HS61_ := hcell hb HS61_
         replace HS62_ := hcell hb HS62_
         replace HS63_ := hcell hb HS63_
         replace HS64_ := hcell hb HS64_
         replace HS65_ := hcell hb HS65_
         replace HS66_ := hcell hb HS66_
         replace HS67_ := hcell hb HS67_
         replace HS68_ := hcell hb HS68_
         replace HS69_ := hcell hb HS69_
         replace HS70_ := hcell hb HS70_
         replace HS71_ := hcell hb HS71_
         replace HS72_ := hcell hb HS72_
         replace HS73_ := hcell hb HS73_
         replace HS74_ := hcell hb HS74_
         replace HS75_ := hcell hb HS75_
         replace HS76_ := hcell hb HS76_
         replace HS77_ := hcell hb HS77_
         replace HS78_ := hcell hb HS78_
         replace HS79_ := hcell hb HS79_
         replace HS80_ := hcell hb HS80_
         replace HS81_ := hcell hb HS81_
         replace HS82_ := hcell hb HS82_
         replace HS83_ := hcell hb HS83_
         replace HS84_ := hcell hb HS84_
         replace HS85_ := hcell hb HS85_
         replace HS86_ := hcell hb HS86_
         replace HS87_ := hcell hb HS87_
         replace HS88_ := hcell hb HS88_
         replace HS89_ := hcell hb HS89_
         replace HS90_ := hcell hb HS90_
         replace HS91_ := hcell hb HS91_
         replace HS92_ := hcell hb HS92_
         replace HS93_ := hcell hb HS93_
         replace HS94_ := hcell hb HS94_
         replace HS95_ := hcell hb HS95_
         replace HS96_ := hcell hb HS96_
         replace HS97_ := hcell hb HS97_
         replace HS98_ := hcell hb HS98_
         replace HS99_ := hcell hb HS99_
         replace HS100_ := hcell hb HS100_
         replace HS101_ := hcell hb HS101_
         replace HS102_ := hcell hb HS102_
         replace HS103_ := hcell hb HS103_
         replace HS104_ := hcell hb HS104_
         refine ⟨_, rfl, ?_⟩
         replace HO_5 := As (Kd.S_below (by (with_reducible repeat (first | apply Kd.S_alloc | apply Kd.S_drewN | apply Kd.S_drew)); exact HO_5.out) hb)
         replace HO_303013 := As (Kd.R_below (kR HO_303013.out) hb)
         replace HO356 := As (Kd.R_below (kR HO356.out) hb)
         replace HL359_13 := As (Kd.R_below (kR HL359_13.out) hb)
         replace HL360_13 := As (Kd.R_below (kR HL360_13.out) hb)
         replace HL361_13 := As (Kd.R_below (kR HL361_13.out) hb)
         replace HL362_13 := As (Kd.R_below (kR HL362_13.out) hb)
         replace HL363_13 := As (Kd.R_below (kR HL363_13.out) hb)
         replace HL364_13 := As (Kd.R_below (kR HL364_13.out) hb)
         replace HO379 := As (Kd.R_below (kR HO379.out) hb)
         replace BK302 := As (blk_below (kb BK302.out) hb)
         replace HR359_13 := As (Kd.C_below (by repeat (first | (with_reducible exact HR359_13.out) | (with_reducible refine Kd.C_alloc ?_ _) | (with_reducible refine Kd.C_drewN ?_ _) | (with_reducible refine Kd.C_drew ?_) | exact HR359_13.out)) hb)
         replace HR360_13 := As (Kd.C_below (by repeat (first | (with_reducible exact HR360_13.out) | (with_reducible refine Kd.C_alloc ?_ _) | (with_reducible refine Kd.C_drewN ?_ _) | (with_reducible refine Kd.C_drew ?_) | exact HR360_13.out)) hb)
         replace HR361_13 := As (Kd.C_below (by repeat (first | (with_reducible exact HR361_13.out) | (with_reducible refine Kd.C_alloc ?_ _) | (with_reducible refine Kd.C_drewN ?_ _) | (with_reducible refine Kd.C_drew ?_) | exact HR361_13.out)) hb)
         replace HR362_13 := As (Kd.C_below (by repeat (first | (with_reducible exact HR362_13.out) | (with_reducible refine Kd.C_alloc ?_ _) | (with_reducible refine Kd.C_drewN ?_ _) | (with_reducible refine Kd.C_drew ?_) | exact HR362_13.out)) hb)
         replace HR363_13 := As (Kd.C_below (by repeat (first | (with_reducible exact HR363_13.out) | (with_reducible refine Kd.C_alloc ?_ _) | (with_reducible refine Kd.C_drewN ?_ _) | (with_reducible refine Kd.C_drew ?_) | exact HR363_13.out)) hb)
         replace HR364_13 := As (Kd.C_below (by repeat (first | (with_reducible exact HR364_13.out) | (with_reducible refine Kd.C_alloc ?_ _) | (with_reducible refine Kd.C_drewN ?_ _) | (with_reducible refine Kd.C_drew ?_) | exact HR364_13.out)) hb)
         replace HB := As (below_step (kB1 HB.out GE302.out) hb)
         (try clear hb)
         (try clear hb2)
         (try clear hk)
         (try clear hi)
         refine hK.out _ _ ⟨kC BK302.out 0, kC BK302.out 1, kC BK302.out 2, kC BK302.out 3, kC BK302.out 4, kC BK302.out 5, kC BK302.out 6, kC BK302.out 7, kC BK302.out 8, kC BK302.out 9, kC BK302.out 10, kC BK302.out 11, kC BK302.out 12, kC BK302.out 13, kC BK302.out 14, HS15_, HS16_, HS17_, HS18_, HS19_, HS20_, HS21_, HS22_, HS23_, HS24_, HS25_, HS26_, HS27_, HS28_, HS29_, HS30_, HS31_, HS32_, HS33_, HS34_, HS35_, HS36_, HS37_, HS38_, HS39_, HS40_, HS41_, HS42_, HS43_, HS44_, HS45_, HS46_, HS47_, HS48_, HS49_, HS50_, HS51_, HS52_, HS53_, HS54_, HS55_, HS56_, HS57_, HS58_, HS59_, HS60_, HS61_, HS62_, HS63_, HS64_, HS65_, HS66_, HS67_, HS68_, HS69_, HS70_, HS71_, HS72_, HS73_, HS74_, HS75_, HS76_, HS77_, HS78_, HS79_, HS80_, HS81_, HS82_, HS83_, HS84_, HS85_, HS86_, HS87_, HS88_, HS89_, HS90_, HS91_, HS92_, HS93_, HS94_, HS95_, HS96_, HS97_, HS98_, HS99_, HS100_, HS101_, HS102_, HS103_, HS104_⟩ (fun hHeld => ?_)
         clear hK K
         refine nP ?_
         refine kP 55 101 #[I, I, I, I, I, I, I, I, I, I, I, I, I, I, I, I, I, I, I, I, I, I, I, I, I, I, I, I, I, I, I, I, I, I, I, I, I, I, I, I, I, I, I, I, I, I, I, I, I, I, I, I, I, I, I, I, O] ?_ (any_of HT_.out (by kernel_rfl))
         refine kP 56 0 #[I, I, I, I, I, I, I, I, I, I, I, I, I, I, I, I, I, I, I, I, I, I, I, I, I, I, I, I, I, I, I, I, I, I, I, I, I, I, I, I, I, I, I, I, I, I, I, I, I, I, I, I, I, I, I, I, I] ?_ (any_of HT_.out (by kernel_rfl))
         refine done_ (done_of HT_.out (by kernel_rfl)) ?_
         try go_wp2
         go_ret
         exact ⟨kE, by exact kB1 HB.out GE302.out⟩
        rw [if_neg c39] at H
        have c39b0 : (t376.toList == ([98, 98, 98, 98, 98, 98, 98, 98] : List UInt8)) = false := beq_eq_false_iff_ne.mpr c39
        have c39b1 : (t376.toList != ([98, 98, 98, 98, 98, 98, 98, 98] : List UInt8)) = true := bne_iff_ne.mpr c39
        exact absurd H (by simp)
       replace c35 := Bool.eq_false_iff.mpr c35
       subst c35
       rw [if_neg (show ¬ (false = true) by decide)] at H
       exact absurd H (by simp)
      rw [if_neg c33] at H
      have c33b0 : (((rd_T28 t337 2).f10).toList == ([99, 99, 99, 99] : List UInt8)) = false := beq_eq_false_iff_ne.mpr c33
      have c33b1 : (((rd_T28 t337 2).f10).toList != ([99, 99, 99, 99] : List UInt8)) = true := bne_iff_ne.mpr c33
      exact absurd H (by simp)
     rw [if_neg c32] at H
     have c32b0 : (((rd_T28 t337 2).f6) == 16) = false := beq_eq_false_iff_ne.mpr c32
     have c32b1 : (((rd_T28 t337 2).f6) != 16) = true := bne_iff_ne.mpr c32
     exact absurd H (by simp)
    rw [if_neg c30] at H
    have c30b0 : (((rd_T28 t337 1).f6) == 8) = false := beq_eq_false_iff_ne.mpr c30
    have c30b1 : (((rd_T28 t337 1).f6) != 8) = true := bne_iff_ne.mpr c30
    exact absurd H (by simp)
   replace c28 := Bool.eq_false_iff.mpr c28
   subst c28
   rw [if_neg (show ¬ (false = true) by decide)] at H
   exact absurd H (by simp)
  rw [if_neg c25] at H
  have c25b0 : ((t282.extract 0 12).toList == ([69, 0, 0, 22, 0, 0, 0, 0, 64, 17, 102, 213] : List UInt8)) = false := beq_eq_false_iff_ne.mpr c25
  have c25b1 : ((t282.extract 0 12).toList != ([69, 0, 0, 22, 0, 0, 0, 0, 64, 17, 102, 213] : List UInt8)) = true := bne_iff_ne.mpr c25
  exact absurd H (by simp)

end Go.Proofs.Ytobioaommmgehaa.Z
-- short
-- short2
