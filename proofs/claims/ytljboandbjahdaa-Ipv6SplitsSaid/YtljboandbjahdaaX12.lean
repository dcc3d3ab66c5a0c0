/- Functions and their walks, printed by xprint.py. -/
import Derived.Test.YtljboandbjahdaaX0
import Derived.Test.YtljboandbjahdaaX6
import Derived.Test.YtljboandbjahdaaX9
import Derived.Test.YtljboandbjahdaaX10
import Derived.Test.YtljboandbjahdaaX11
namespace Go.Proofs.Ytljboandbjahdaa.X
open Go.RowKit Go.Proofs.YtljboandbjahdaaW.PrintWords Go.Proofs.YtljboandbjahdaaW.PrintLast Go.Proofs.YtljboandbjahdaaW.PrintMore
attribute [local go_sem] max2_int min2_int max_two min_two max_three min_three max_four min_four   -- for this text's walks alone
set_option linter.unusedVariables false
set_option linter.unusedSimpArgs false

abbrev I : Bool := true
abbrev O : Bool := false
theorem kC {w : World} {g : Nat} {t : TypeId} {cs : Array Value} (h : w.heap[g]? = some (.cells cs t (0, 0))) (i : Nat) {v : Value} (e : cs[i]? = some v := by rfl) : w.cell? ⟨g, i, none⟩ = some v := (blk_cell h i).trans e
theorem kF {W : World} {p a : Go.Addr} {u v : Value} (h : a.block ≠ p.block) (e : W.cell? a = some v) : (W.setCell p u).cell? a = some v := (cell_far h u).trans e

/-! ### intrusionlaw12_lives: function 10 -/
def intrusionlaw12_lives.j0 : Nat → ByteArray → Bool → Option (Bool)
 | 0, _, _ => none
 | k + 1, x1, x33 => if x33 = true then (none) else (if x1.size + 1 ≤ 9223372036854775807 then ((ipv6_Decode.f k (x1 ++ (⟨#[33]⟩ : ByteArray))).bind fun bt318 => ((ipv6_Split.f k 0 0 0 6 true 0 0 true 0 0 ([] : List (S60)) false 0 0 false (⟨#[97, 98, 99, 100, 101, 102, 103, 104, 105, 106, 107, 108, 109, 110, 111, 112, 113, 114, 115, 116]⟩ : ByteArray) 8 7).bind fun bt338 => ((intrusionlaw12_packet.f).bind fun bt342 => ((intrusionref12_Same.f k bt318.1 bt318.2.1 bt318.2.2.1 bt318.2.2.2.1 bt318.2.2.2.2.1 bt318.2.2.2.2.2.1 bt318.2.2.2.2.2.2.1 bt318.2.2.2.2.2.2.2.1 bt318.2.2.2.2.2.2.2.2.1 bt318.2.2.2.2.2.2.2.2.2.1 bt318.2.2.2.2.2.2.2.2.2.2.1 bt318.2.2.2.2.2.2.2.2.2.2.2.1 bt318.2.2.2.2.2.2.2.2.2.2.2.2.1 bt318.2.2.2.2.2.2.2.2.2.2.2.2.2.1 bt318.2.2.2.2.2.2.2.2.2.2.2.2.2.2.1 bt318.2.2.2.2.2.2.2.2.2.2.2.2.2.2.2.1 bt342.1 bt342.2.1 bt342.2.2.1 bt342.2.2.2.1 bt342.2.2.2.2.1 bt342.2.2.2.2.2.1 bt342.2.2.2.2.2.2.1 bt342.2.2.2.2.2.2.2.1 bt342.2.2.2.2.2.2.2.2.1 bt342.2.2.2.2.2.2.2.2.2.1 bt342.2.2.2.2.2.2.2.2.2.2.1 bt342.2.2.2.2.2.2.2.2.2.2.2.1 bt342.2.2.2.2.2.2.2.2.2.2.2.2.1 bt342.2.2.2.2.2.2.2.2.2.2.2.2.2.1 bt342.2.2.2.2.2.2.2.2.2.2.2.2.2.2.1 bt342.2.2.2.2.2.2.2.2.2.2.2.2.2.2.2).bind fun t360 => (if t360 = true then (if bt318.2.2.2.2.2.2.2.2.2.2.2.2.2.2.2.2 = 0 then (if bt338.2 = 0 then (if (bt338.1.length : Int) = 3 then (if 2 < (bt338.1.length : Int) then (if ((rd_T28 bt338.1 2).f9) = 16 then (if ((rd_T28 bt338.1 2).f10 = true) then (none) else (if 1 < (bt338.1.length : Int) then (if (rd_T28 bt338.1 1).f10 = true then ((ipv6_Fragment.f ((rd_T28 bt338.1 1).f0) ((rd_T28 bt338.1 1).f1) ((rd_T28 bt338.1 1).f2) ((rd_T28 bt338.1 1).f3) ((rd_T28 bt338.1 1).f4.f0) ((rd_T28 bt338.1 1).f4.f1) ((rd_T28 bt338.1 1).f4.f2) ((rd_T28 bt338.1 1).f5.f0) ((rd_T28 bt338.1 1).f5.f1) ((rd_T28 bt338.1 1).f5.f2) ((rd_T28 bt338.1 1).f6) ((rd_T28 bt338.1 1).f7) ((rd_T28 bt338.1 1).f8) ((rd_T28 bt338.1 1).f9) ((rd_T28 bt338.1 1).f10) ((rd_T28 bt338.1 1).f11)).bind fun bt365 => (if bt365.2.2.2.2.2.2.2.2.2.2.2.toList = ([105, 106, 107, 108, 109, 110, 111, 112] : List UInt8) then ((ipv6_Routed.f k bt318.1 bt318.2.1 bt318.2.2.1 bt318.2.2.2.1 bt318.2.2.2.2.1 bt318.2.2.2.2.2.1 bt318.2.2.2.2.2.2.1 bt318.2.2.2.2.2.2.2.1 bt318.2.2.2.2.2.2.2.2.1 bt318.2.2.2.2.2.2.2.2.2.1 bt318.2.2.2.2.2.2.2.2.2.2.1 bt318.2.2.2.2.2.2.2.2.2.2.2.1 bt318.2.2.2.2.2.2.2.2.2.2.2.2.1 bt318.2.2.2.2.2.2.2.2.2.2.2.2.2.1 bt318.2.2.2.2.2.2.2.2.2.2.2.2.2.2.1 bt318.2.2.2.2.2.2.2.2.2.2.2.2.2.2.2.1).bind fun t377 => (some (!t377))) else (none))) else (none)) else (none))) else (none)) else (none)) else (none)) else (none)) else (none)) else (none)))))) else (none))
def intrusionlaw12_lives.f (k : Nat)  : Option (Bool) := (intrusionlaw12_packet.f).bind fun bt298 => ((ipv6_Encode.f k bt298.1 bt298.2.1 bt298.2.2.1 bt298.2.2.2.1 bt298.2.2.2.2.1 bt298.2.2.2.2.2.1 bt298.2.2.2.2.2.2.1 bt298.2.2.2.2.2.2.2.1 bt298.2.2.2.2.2.2.2.2.1 bt298.2.2.2.2.2.2.2.2.2.1 bt298.2.2.2.2.2.2.2.2.2.2.1 bt298.2.2.2.2.2.2.2.2.2.2.2.1 bt298.2.2.2.2.2.2.2.2.2.2.2.2.1 bt298.2.2.2.2.2.2.2.2.2.2.2.2.2.1 bt298.2.2.2.2.2.2.2.2.2.2.2.2.2.2.1 bt298.2.2.2.2.2.2.2.2.2.2.2.2.2.2.2).bind fun bt316 => (if (bt316.1.size : Int) = 51 then (if bt316.2 = 0 then (if 5 < (bt316.1.size : Int) then (if (bt bt316.1 5) = 11 then (if 6 < (bt316.1.size : Int) then (if (bt bt316.1 6) = 60 then (if 40 < (bt316.1.size : Int) then (intrusionlaw12_lives.j0 k bt316.1 ((bt bt316.1 40) != 17)) else (none)) else (intrusionlaw12_lives.j0 k bt316.1 true)) else (none)) else (intrusionlaw12_lives.j0 k bt316.1 true)) else (none)) else (intrusionlaw12_lives.j0 k bt316.1 true)) else (intrusionlaw12_lives.j0 k bt316.1 true)))
theorem intrusionlaw12_lives.mono_l : ∀ k, (∀ y0 y1, LeO (intrusionlaw12_lives.j0 k y0 y1) (intrusionlaw12_lives.j0 (k + 1) y0 y1))
 | 0 => fun _ _ r h => by simp [intrusionlaw12_lives.j0] at h
 | k + 1 => by
  have ih0 := intrusionlaw12_lives.mono_l k
  intro y0 y1
  unfold intrusionlaw12_lives.j0
  repeat' first | with_reducible first | apply ih0 | apply intrusionref12_Same.mono | apply ipv6_Decode.mono | apply ipv6_Encode.mono | apply ipv6_Routed.mono | apply ipv6_Split.mono | apply LeO.refl | apply LeO.none | refine LeO.ite ?_ ?_ | refine LeO.bind ?_ (fun _ => ?_)
theorem intrusionlaw12_lives.mono : ∀ k, LeO (intrusionlaw12_lives.f k ) (intrusionlaw12_lives.f (k + 1) ) := by
 intro  k
 have ih0 := intrusionlaw12_lives.mono_l k
 unfold intrusionlaw12_lives.f
 repeat' first | with_reducible first | apply ih0 | apply intrusionref12_Same.mono | apply ipv6_Decode.mono | apply ipv6_Encode.mono | apply ipv6_Routed.mono | apply ipv6_Split.mono | apply LeO.refl | apply LeO.none | refine LeO.ite ?_ ?_ | refine LeO.bind ?_ (fun _ => ?_)
def intrusionlaw12_lives.T6 : Bool × List (List Nat × List Nat) := (true, [([], []), ([], []), ([0, 1, 1], [0, 1]), ([2, 2], [2]), ([3], [3]), ([4, 3], [3, 4]), ([3, 5], [3, 5]), ([6, 3], [6]), ([7], [7]), ([8, 7], [7, 8]), ([7, 9], [7, 9]), ([10, 7], [10]), ([11], [11]), ([12, 11], [11, 12]), ([13, 11], [11, 13]), ([11, 14], [11, 14]), ([15, 11], [15]), ([16], [16]), ([17, 16], [16, 17]), ([18, 16], [16, 18]), ([19, 16], [16, 19]), ([20, 16], [16, 20]), ([16, 21], [16, 21]), ([22, 16], [22]), ([23], [23]), ([24, 23], [23, 24]), ([25, 23], [23, 25]), ([26, 23], [23, 26]), ([27, 23], [23, 27]), ([23, 28], [23, 28]), ([29, 23], [29]), ([30], [30]), ([31, 30], [30, 31]), ([32, 30], [30, 32]), ([33, 30], [30, 33]), ([30, 34], [30, 34]), ([35, 30], [35]), ([36], [36]), ([37, 36], [36, 37]), ([38, 36], [36, 38]), ([39, 36, 36], [36, 39]), ([40, 36], [36, 40]), ([41, 36], [36, 41]), ([36, 42], [36, 42]), ([43, 40], [43]), ([44], [44]), ([45, 44, 44], [44, 45]), ([46, 44], [44, 46]), ([44, 47], [44, 47]), ([48, 46, 0, 1, 2, 3, 4, 5, 6, 7, 8, 9, 10, 11, 12, 13, 14, 15, 16, 17, 18, 19, 20, 21, 22, 23, 24, 25, 26, 27, 28, 29, 30, 31, 32, 33, 34, 35, 36, 37, 38, 39, 40, 41, 42, 43, 44, 45, 46, 47, 48], [48])])
def intrusionlaw12_lives.B6 : List Nat := [0, 0, 3, 7, 15, 31, 63, 127, 255, 511, 1023, 2047, 4095, 8191, 16383, 32767, 65535, 131071, 262143, 524287, 1048575, 2097151, 4194303, 8388607, 16777215, 33554431, 67108863, 134217727, 268435455, 536870911, 1073741823, 2147483647, 4294967295, 8589934591, 17179869183, 34359738367, 68719476735, 137438953471, 274877906943, 549755813887, 1099511627775, 2199023255551, 4398046511103, 8796093022207, 17592186044415, 35184372088831, 70368744177663, 140737488355327, 281474976710655, 562949953421311]
theorem intrusionlaw12_lives.tab6 : rtab .any (opsOf Try.f10 6) = intrusionlaw12_lives.T6 := by kernel_rfl
theorem intrusionlaw12_lives.bits6 : waitsOk intrusionlaw12_lives.T6.2 intrusionlaw12_lives.B6 = true := by kernel_rfl
set_option maxHeartbeats 8000000 in
set_option maxRecDepth 100000 in
theorem intrusionlaw12_lives.calls (k : Nat)  (r : Bool) (w : World) (h : intrusionlaw12_lives.f k  = some r) :
  Calls Try.prog 10 #[] w fun e w' => e = .returned (.bool r) ∧ Below w.heap.size w w' := by
 have hu28 := Try.underlying28
 have hu25 := Try.underlying25
 have HB := As (Below.refl w.heap.size w)
 have H : ((intrusionlaw12_packet.f).bind fun bt298 => ((ipv6_Encode.f k bt298.1 bt298.2.1 bt298.2.2.1 bt298.2.2.2.1 bt298.2.2.2.2.1 bt298.2.2.2.2.2.1 bt298.2.2.2.2.2.2.1 bt298.2.2.2.2.2.2.2.1 bt298.2.2.2.2.2.2.2.2.1 bt298.2.2.2.2.2.2.2.2.2.1 bt298.2.2.2.2.2.2.2.2.2.2.1 bt298.2.2.2.2.2.2.2.2.2.2.2.1 bt298.2.2.2.2.2.2.2.2.2.2.2.2.1 bt298.2.2.2.2.2.2.2.2.2.2.2.2.2.1 bt298.2.2.2.2.2.2.2.2.2.2.2.2.2.2.1 bt298.2.2.2.2.2.2.2.2.2.2.2.2.2.2.2).bind fun bt316 => (if (bt316.1.size : Int) = 51 then (if bt316.2 = 0 then (if 5 < (bt316.1.size : Int) then (if (bt bt316.1 5) = 11 then (if 6 < (bt316.1.size : Int) then (if (bt bt316.1 6) = 60 then (if 40 < (bt316.1.size : Int) then (intrusionlaw12_lives.j0 k bt316.1 ((bt bt316.1 40) != 17)) else (none)) else (intrusionlaw12_lives.j0 k bt316.1 true)) else (none)) else (intrusionlaw12_lives.j0 k bt316.1 true)) else (none)) else (intrusionlaw12_lives.j0 k bt316.1 true)) else (intrusionlaw12_lives.j0 k bt316.1 true)))) = some r := h
 clear h
 replace H := Option.bind_eq_some_iff.mp H
 obtain ⟨⟨t298, t299, t300, t301, t302, t303, t304, t305, t306, t307, t308, t311, t312, t313, t314, t315⟩, A10, H⟩ := H
 replace H : ((ipv6_Encode.f k t298 t299 t300 t301 t302 t303 t304 t305 t306 t307 t308 t311 t312 t313 t314 t315).bind fun bt316 => (if (bt316.1.size : Int) = 51 then (if bt316.2 = 0 then (if 5 < (bt316.1.size : Int) then (if (bt bt316.1 5) = 11 then (if 6 < (bt316.1.size : Int) then (if (bt bt316.1 6) = 60 then (if 40 < (bt316.1.size : Int) then (intrusionlaw12_lives.j0 k bt316.1 ((bt bt316.1 40) != 17)) else (none)) else (intrusionlaw12_lives.j0 k bt316.1 true)) else (none)) else (intrusionlaw12_lives.j0 k bt316.1 true)) else (none)) else (intrusionlaw12_lives.j0 k bt316.1 true)) else (intrusionlaw12_lives.j0 k bt316.1 true))) = some r := H
 have A1 := As A10
 clear A10
 replace H := Option.bind_eq_some_iff.mp H
 obtain ⟨⟨t316, t317⟩, A20, H⟩ := H
 replace H : (if (t316.size : Int) = 51 then (if t317 = 0 then (if 5 < (t316.size : Int) then (if (bt t316 5) = 11 then (if 6 < (t316.size : Int) then (if (bt t316 6) = 60 then (if 40 < (t316.size : Int) then (intrusionlaw12_lives.j0 k t316 ((bt t316 40) != 17)) else (none)) else (intrusionlaw12_lives.j0 k t316 true)) else (none)) else (intrusionlaw12_lives.j0 k t316 true)) else (none)) else (intrusionlaw12_lives.j0 k t316 true)) else (intrusionlaw12_lives.j0 k t316 true)) = some r := H
 have A2 := As A20
 clear A20
 have HC3 := As H
 clear H
 go_enter Try.func10, Try.ntmps10
 go_upto_region 2 with (first | ((with_reducible refine gate_callee (f := 24) rfl ?_); refine goesL_ (some 8) rfl rfl Try.func24 (by kernel_rfl) rfl #[] rfl kA ?_; (with_reducible refine (intrusionlaw12_packet.calls  t298 t299 t300 t301 t302 t303 t304 t305 t306 t307 t308 t311 t312 t313 t314 t315 _ A1.out).mono ?_); rintro e w4 ⟨v309, rfl, ho0, hb⟩; refine ⟨_, rfl, ?_⟩; have HO310 := As (Kd.R_lower ho0 (below_size (kB HB.out))); replace HB := As (below_step (kB HB.out) hb); (try clear hb); (try clear ho0); obtain ⟨Ao5, co5, eo5⟩ := Kd.R_slice HO310.out; subst eo5) | ((with_reducible refine gate_callee (f := 15) rfl ?_); refine goesL_ (some 9) rfl rfl Try.func15 (by kernel_rfl) rfl #[.agg #[.int .i64 t298, .int .i64 t299, .int .i64 t300, .int .i64 t301, .bool t302, .int .u64 t303, .int .u64 t304, .bool t305, .int .u64 t306, .int .u64 t307, .slice Ao5 t308.length co5, .bool t311, .int .i64 t312, .int .i64 t313, .bool t314, .string t315]] rfl kA ?_; (with_reducible refine (ipv6_Encode.calls k t298 t299 t300 t301 t302 t303 t304 t305 t306 t307 _ _ t308 t311 t312 t313 t314 t315 t316 t317 _ ?side1 ?side2 A2.out).mono ?_); (case side1 => repeat (first | exact (Kd.R_reads' HO310.out).2.2 | (with_reducible refine Kd.C_alloc ?_ _) | (with_reducible refine Kd.C_drewN ?_ _) | (with_reducible refine Kd.C_drew ?_))); (case side2 => exact (Kd.R_reads' HO310.out).2.1); rintro e w6 ⟨rfl, hb⟩; refine ⟨_, rfl, ?_⟩; replace HO310 := As (Kd.R_below (kR HO310.out) hb); replace HB := As (below_step (kB HB.out) hb); (try clear hb)))
 (try simp only [Act.put, sA, sZ, sS])
 go_cut [33] (fun v33 wc => ∃ (kq : Nat) (x33_2 : Bool), v33 = .bool x33_2 ∧ Aside0 (intrusionlaw12_lives.j0 kq t316 x33_2 = some r) ∧ Aside0 (kq ≤ k) ∧ Aside0 (Below w.heap.size w wc))
 case first =>
  have H := HC3.out
  clear HC3
  by_cases c7 : (t316.size : Int) = 51
  ·rw [if_pos c7] at H
   have c7b0 : ((t316.size : Int) == 51) = true := beq_iff_eq.mpr c7
   have c7b1 : ((t316.size : Int) != 51) = false := bne_eq_false_iff_eq.mpr c7
   clear c7
   (first | rw [c7b0] | (simp only [i64_w, i32_w]; rw [c7b0]) | skip)
   by_cases c8 : t317 = 0
   ·rw [if_pos c8] at H
    have c8b0 : (t317 == 0) = true := beq_iff_eq.mpr c8
    have c8b1 : (t317 != 0) = false := bne_eq_false_iff_eq.mpr c8
    clear c8
    by_cases c9 : 5 < (t316.size : Int)
    ·rw [if_pos c9] at H
     have c9b0 : decide (5 < (t316.size : Int)) = true := decide_eq_true c9
     have c9b1 : decide (5 < t316.size) = true := decide_eq_true (by omega)
     clear c9
     by_cases c11 : (bt t316 5) = 11
     ·rw [if_pos c11] at H
      have c11b0 : ((bt t316 5) == 11) = true := beq_iff_eq.mpr c11
      have c11b1 : ((bt t316 5) != 11) = false := bne_eq_false_iff_eq.mpr c11
      clear c11
      by_cases c12 : 6 < (t316.size : Int)
      ·rw [if_pos c12] at H
       have c12b0 : decide (6 < (t316.size : Int)) = true := decide_eq_true c12
       have c12b1 : decide (6 < t316.size) = true := decide_eq_true (by omega)
       clear c12
       by_cases c14 : (bt t316 6) = 60
       ·rw [if_pos c14] at H
        have c14b0 : ((bt t316 6) == 60) = true := beq_iff_eq.mpr c14
        have c14b1 : ((bt t316 6) != 60) = false := bne_eq_false_iff_eq.mpr c14
        clear c14
        by_cases c15 : 40 < (t316.size : Int)
        ·rw [if_pos c15] at H
         have c15b0 : decide (40 < (t316.size : Int)) = true := decide_eq_true c15
         have c15b1 : decide (40 < t316.size) = true := decide_eq_true (by omega)
         clear c15
         have H' := As H
         clear H
         have p10 : 0 ≤ (5 : Int) := (by omega)
         have q10 : 5 < t316.size := (by have : (5 : Int) < (t316.size : Int) := of_decide_eq_true (by first | (with_reducible assumption) | assumption); omega)
         have hx10 : ∀ h : 5 < t316.size, ((t316[5]'h).toNat : Int) = bt t316 5 := bt_at t316 5
         clear p10
         have qi10 : (5 < (t316.size : Int)) = True := eq_true (of_decide_eq_true (by first | (with_reducible assumption) | assumption))
         replace q10 := eq_true q10
         have hbl10 := (bt_range t316 5).1
         have hbu10 := (bt_range t316 5).2
         have p13 : 0 ≤ (6 : Int) := (by omega)
         have q13 : 6 < t316.size := (by have : (6 : Int) < (t316.size : Int) := of_decide_eq_true (by first | (with_reducible assumption) | assumption); omega)
         have hx13 : ∀ h : 6 < t316.size, ((t316[6]'h).toNat : Int) = bt t316 6 := bt_at t316 6
         clear p13
         have qi13 : (6 < (t316.size : Int)) = True := eq_true (of_decide_eq_true (by first | (with_reducible assumption) | assumption))
         replace q13 := eq_true q13
         have hbl13 := (bt_range t316 6).1
         have hbu13 := (bt_range t316 6).2
         have p16 : 0 ≤ (40 : Int) := (by omega)
         have q16 : 40 < t316.size := (by have : (40 : Int) < (t316.size : Int) := of_decide_eq_true (by first | (with_reducible assumption) | assumption); omega)
         have hx16 : ∀ h : 40 < t316.size, ((t316[40]'h).toNat : Int) = bt t316 40 := bt_at t316 40
         clear p16
         have qi16 : (40 < (t316.size : Int)) = True := eq_true (of_decide_eq_true (by first | (with_reducible assumption) | assumption))
         replace q16 := eq_true q16
         have hbl16 := (bt_range t316 40).1
         have hbu16 := (bt_range t316 40).2
         go_wp2
         go_meet
         case rel => exact ⟨_, (((bt t316 40) != 17)), kS, H', ⟨by first | omega | exact Nat.le_refl _⟩, ⟨kB HB.out⟩⟩
        rw [if_neg c15] at H
        exact absurd H (by simp)
       rw [if_neg c14] at H
       have c14b0 : ((bt t316 6) == 60) = false := beq_eq_false_iff_ne.mpr c14
       have c14b1 : ((bt t316 6) != 60) = true := bne_iff_ne.mpr c14
       have H' := As H
       clear H
       have p10 : 0 ≤ (5 : Int) := (by omega)
       have q10 : 5 < t316.size := (by have : (5 : Int) < (t316.size : Int) := of_decide_eq_true (by first | (with_reducible assumption) | assumption); omega)
       have hx10 : ∀ h : 5 < t316.size, ((t316[5]'h).toNat : Int) = bt t316 5 := bt_at t316 5
       clear p10
       have qi10 : (5 < (t316.size : Int)) = True := eq_true (of_decide_eq_true (by first | (with_reducible assumption) | assumption))
       replace q10 := eq_true q10
       have hbl10 := (bt_range t316 5).1
       have hbu10 := (bt_range t316 5).2
       have p13 : 0 ≤ (6 : Int) := (by omega)
       have q13 : 6 < t316.size := (by have : (6 : Int) < (t316.size : Int) := of_decide_eq_true (by first | (with_reducible assumption) | assumption); omega)
       have hx13 : ∀ h : 6 < t316.size, ((t316[6]'h).toNat : Int) = bt t316 6 := bt_at t316 6
       clear p13
       have qi13 : (6 < (t316.size : Int)) = True := eq_true (of_decide_eq_true (by first | (with_reducible assumption) | assumption))
       replace q13 := eq_true q13
       have hbl13 := (bt_range t316 6).1
       have hbu13 := (bt_range t316 6).2
       go_wp2
       go_meet
       case rel => exact ⟨_, (true), kS, H', ⟨by first | omega | exact Nat.le_refl _⟩, ⟨kB HB.out⟩⟩
      rw [if_neg c12] at H
      exact absurd H (by simp)
     rw [if_neg c11] at H
     have c11b0 : ((bt t316 5) == 11) = false := beq_eq_false_iff_ne.mpr c11
     have c11b1 : ((bt t316 5) != 11) = true := bne_iff_ne.mpr c11
     have H' := As H
     clear H
     have p10 : 0 ≤ (5 : Int) := (by omega)
     have q10 : 5 < t316.size := (by have : (5 : Int) < (t316.size : Int) := of_decide_eq_true (by first | (with_reducible assumption) | assumption); omega)
     have hx10 : ∀ h : 5 < t316.size, ((t316[5]'h).toNat : Int) = bt t316 5 := bt_at t316 5
     clear p10
     have qi10 : (5 < (t316.size : Int)) = True := eq_true (of_decide_eq_true (by first | (with_reducible assumption) | assumption))
     replace q10 := eq_true q10
     have hbl10 := (bt_range t316 5).1
     have hbu10 := (bt_range t316 5).2
     go_wp2
     go_meet
     case rel => exact ⟨_, (true), kS, H', ⟨by first | omega | exact Nat.le_refl _⟩, ⟨kB HB.out⟩⟩
    rw [if_neg c9] at H
    exact absurd H (by simp)
   rw [if_neg c8] at H
   have c8b0 : (t317 == 0) = false := beq_eq_false_iff_ne.mpr c8
   have c8b1 : (t317 != 0) = true := bne_iff_ne.mpr c8
   have H' := As H
   clear H
   go_wp2
   go_meet
   case rel => exact ⟨_, (true), kS, H', ⟨by first | omega | exact Nat.le_refl _⟩, ⟨kB HB.out⟩⟩
  rw [if_neg c7] at H
  have c7b0 : ((t316.size : Int) == 51) = false := beq_eq_false_iff_ne.mpr c7
  have c7b1 : ((t316.size : Int) != 51) = true := bne_iff_ne.mpr c7
  (first | rw [c7b0] | (simp only [i64_w, i32_w]; rw [c7b0]) | skip)
  have H' := As H
  clear H
  go_wp2
  go_meet
  case rel => exact ⟨_, (true), kS, H', ⟨by first | omega | exact Nat.le_refl _⟩, ⟨kB HB.out⟩⟩
 clear HC3
 obtain ⟨kq, x33_2, rfl, HA, HJ2, HB⟩ := hcut
 cases kq with
 | zero => exact absurd HA.out (by simp [intrusionlaw12_lives.j0])
 | succ kj2 =>
  have H := HA.out
  clear HA
  simp only [intrusionlaw12_lives.j0] at H
  by_cases c17 : x33_2 = true
  ·subst c17
   have H1 : (none) = some r := by rw [if_pos rfl] at H; exact H
   clear H
   have H := H1
   clear H1
   exact absurd H (by simp)
  replace c17 := Bool.eq_false_iff.mpr c17
  subst c17
  have H1 : (if t316.size + 1 ≤ 9223372036854775807 then ((ipv6_Decode.f kj2 (t316 ++ (⟨#[33]⟩ : ByteArray))).bind fun bt318 => ((ipv6_Split.f kj2 0 0 0 6 true 0 0 true 0 0 ([] : List (S60)) false 0 0 false (⟨#[97, 98, 99, 100, 101, 102, 103, 104, 105, 106, 107, 108, 109, 110, 111, 112, 113, 114, 115, 116]⟩ : ByteArray) 8 7).bind fun bt338 => ((intrusionlaw12_packet.f).bind fun bt342 => ((intrusionref12_Same.f kj2 bt318.1 bt318.2.1 bt318.2.2.1 bt318.2.2.2.1 bt318.2.2.2.2.1 bt318.2.2.2.2.2.1 bt318.2.2.2.2.2.2.1 bt318.2.2.2.2.2.2.2.1 bt318.2.2.2.2.2.2.2.2.1 bt318.2.2.2.2.2.2.2.2.2.1 bt318.2.2.2.2.2.2.2.2.2.2.1 bt318.2.2.2.2.2.2.2.2.2.2.2.1 bt318.2.2.2.2.2.2.2.2.2.2.2.2.1 bt318.2.2.2.2.2.2.2.2.2.2.2.2.2.1 bt318.2.2.2.2.2.2.2.2.2.2.2.2.2.2.1 bt318.2.2.2.2.2.2.2.2.2.2.2.2.2.2.2.1 bt342.1 bt342.2.1 bt342.2.2.1 bt342.2.2.2.1 bt342.2.2.2.2.1 bt342.2.2.2.2.2.1 bt342.2.2.2.2.2.2.1 bt342.2.2.2.2.2.2.2.1 bt342.2.2.2.2.2.2.2.2.1 bt342.2.2.2.2.2.2.2.2.2.1 bt342.2.2.2.2.2.2.2.2.2.2.1 bt342.2.2.2.2.2.2.2.2.2.2.2.1 bt342.2.2.2.2.2.2.2.2.2.2.2.2.1 bt342.2.2.2.2.2.2.2.2.2.2.2.2.2.1 bt342.2.2.2.2.2.2.2.2.2.2.2.2.2.2.1 bt342.2.2.2.2.2.2.2.2.2.2.2.2.2.2.2).bind fun t360 => (if t360 = true then (if bt318.2.2.2.2.2.2.2.2.2.2.2.2.2.2.2.2 = 0 then (if bt338.2 = 0 then (if (bt338.1.length : Int) = 3 then (if 2 < (bt338.1.length : Int) then (if ((rd_T28 bt338.1 2).f9) = 16 then (if ((rd_T28 bt338.1 2).f10 = true) then (none) else (if 1 < (bt338.1.length : Int) then (if (rd_T28 bt338.1 1).f10 = true then ((ipv6_Fragment.f ((rd_T28 bt338.1 1).f0) ((rd_T28 bt338.1 1).f1) ((rd_T28 bt338.1 1).f2) ((rd_T28 bt338.1 1).f3) ((rd_T28 bt338.1 1).f4.f0) ((rd_T28 bt338.1 1).f4.f1) ((rd_T28 bt338.1 1).f4.f2) ((rd_T28 bt338.1 1).f5.f0) ((rd_T28 bt338.1 1).f5.f1) ((rd_T28 bt338.1 1).f5.f2) ((rd_T28 bt338.1 1).f6) ((rd_T28 bt338.1 1).f7) ((rd_T28 bt338.1 1).f8) ((rd_T28 bt338.1 1).f9) ((rd_T28 bt338.1 1).f10) ((rd_T28 bt338.1 1).f11)).bind fun bt365 => (if bt365.2.2.2.2.2.2.2.2.2.2.2.toList = ([105, 106, 107, 108, 109, 110, 111, 112] : List UInt8) then ((ipv6_Routed.f kj2 bt318.1 bt318.2.1 bt318.2.2.1 bt318.2.2.2.1 bt318.2.2.2.2.1 bt318.2.2.2.2.2.1 bt318.2.2.2.2.2.2.1 bt318.2.2.2.2.2.2.2.1 bt318.2.2.2.2.2.2.2.2.1 bt318.2.2.2.2.2.2.2.2.2.1 bt318.2.2.2.2.2.2.2.2.2.2.1 bt318.2.2.2.2.2.2.2.2.2.2.2.1 bt318.2.2.2.2.2.2.2.2.2.2.2.2.1 bt318.2.2.2.2.2.2.2.2.2.2.2.2.2.1 bt318.2.2.2.2.2.2.2.2.2.2.2.2.2.2.1 bt318.2.2.2.2.2.2.2.2.2.2.2.2.2.2.2.1).bind fun t377 => (some (!t377))) else (none))) else (none)) else (none))) else (none)) else (none)) else (none)) else (none)) else (none)) else (none)))))) else (none)) = some r := by rw [if_neg (show ¬ (false = true) by decide)] at H; exact H
  clear H
  have H := H1
  clear H1
  by_cases c18 : t316.size + 1 ≤ 9223372036854775807
  ·rw [if_pos c18] at H
   have c18b0 := eq_true c18
   have c18b1 : decide (t316.size + 1 ≤ 9223372036854775807) = true := decide_eq_true c18
   try have c18b2 : (9223372036854775807 < t316.size + 1) = False := eq_false (Nat.not_lt.2 c18)
   replace H := Option.bind_eq_some_iff.mp H
   obtain ⟨⟨t318, t319, t320, t321, t322, t323, t324, t325, t326, t327, t328, t331, t332, t333, t334, t335, t336⟩, A190, H⟩ := H
   replace H : ((ipv6_Split.f kj2 0 0 0 6 true 0 0 true 0 0 ([] : List (S60)) false 0 0 false (⟨#[97, 98, 99, 100, 101, 102, 103, 104, 105, 106, 107, 108, 109, 110, 111, 112, 113, 114, 115, 116]⟩ : ByteArray) 8 7).bind fun bt338 => ((intrusionlaw12_packet.f).bind fun bt342 => ((intrusionref12_Same.f kj2 t318 t319 t320 t321 t322 t323 t324 t325 t326 t327 t328 t331 t332 t333 t334 t335 bt342.1 bt342.2.1 bt342.2.2.1 bt342.2.2.2.1 bt342.2.2.2.2.1 bt342.2.2.2.2.2.1 bt342.2.2.2.2.2.2.1 bt342.2.2.2.2.2.2.2.1 bt342.2.2.2.2.2.2.2.2.1 bt342.2.2.2.2.2.2.2.2.2.1 bt342.2.2.2.2.2.2.2.2.2.2.1 bt342.2.2.2.2.2.2.2.2.2.2.2.1 bt342.2.2.2.2.2.2.2.2.2.2.2.2.1 bt342.2.2.2.2.2.2.2.2.2.2.2.2.2.1 bt342.2.2.2.2.2.2.2.2.2.2.2.2.2.2.1 bt342.2.2.2.2.2.2.2.2.2.2.2.2.2.2.2).bind fun t360 => (if t360 = true then (if t336 = 0 then (if bt338.2 = 0 then (if (bt338.1.length : Int) = 3 then (if 2 < (bt338.1.length : Int) then (if ((rd_T28 bt338.1 2).f9) = 16 then (if ((rd_T28 bt338.1 2).f10 = true) then (none) else (if 1 < (bt338.1.length : Int) then (if (rd_T28 bt338.1 1).f10 = true then ((ipv6_Fragment.f ((rd_T28 bt338.1 1).f0) ((rd_T28 bt338.1 1).f1) ((rd_T28 bt338.1 1).f2) ((rd_T28 bt338.1 1).f3) ((rd_T28 bt338.1 1).f4.f0) ((rd_T28 bt338.1 1).f4.f1) ((rd_T28 bt338.1 1).f4.f2) ((rd_T28 bt338.1 1).f5.f0) ((rd_T28 bt338.1 1).f5.f1) ((rd_T28 bt338.1 1).f5.f2) ((rd_T28 bt338.1 1).f6) ((rd_T28 bt338.1 1).f7) ((rd_T28 bt338.1 1).f8) ((rd_T28 bt338.1 1).f9) ((rd_T28 bt338.1 1).f10) ((rd_T28 bt338.1 1).f11)).bind fun bt365 => (if bt365.2.2.2.2.2.2.2.2.2.2.2.toList = ([105, 106, 107, 108, 109, 110, 111, 112] : List UInt8) then ((ipv6_Routed.f kj2 t318 t319 t320 t321 t322 t323 t324 t325 t326 t327 t328 t331 t332 t333 t334 t335).bind fun t377 => (some (!t377))) else (none))) else (none)) else (none))) else (none)) else (none)) else (none)) else (none)) else (none)) else (none))))) = some r := H
   have A19 := As A190
   clear A190
   replace H := Option.bind_eq_some_iff.mp H
   obtain ⟨⟨t338, t341⟩, A200, H⟩ := H
   replace H : ((intrusionlaw12_packet.f).bind fun bt342 => ((intrusionref12_Same.f kj2 t318 t319 t320 t321 t322 t323 t324 t325 t326 t327 t328 t331 t332 t333 t334 t335 bt342.1 bt342.2.1 bt342.2.2.1 bt342.2.2.2.1 bt342.2.2.2.2.1 bt342.2.2.2.2.2.1 bt342.2.2.2.2.2.2.1 bt342.2.2.2.2.2.2.2.1 bt342.2.2.2.2.2.2.2.2.1 bt342.2.2.2.2.2.2.2.2.2.1 bt342.2.2.2.2.2.2.2.2.2.2.1 bt342.2.2.2.2.2.2.2.2.2.2.2.1 bt342.2.2.2.2.2.2.2.2.2.2.2.2.1 bt342.2.2.2.2.2.2.2.2.2.2.2.2.2.1 bt342.2.2.2.2.2.2.2.2.2.2.2.2.2.2.1 bt342.2.2.2.2.2.2.2.2.2.2.2.2.2.2.2).bind fun t360 => (if t360 = true then (if t336 = 0 then (if t341 = 0 then (if (t338.length : Int) = 3 then (if 2 < (t338.length : Int) then (if ((rd_T28 t338 2).f9) = 16 then (if ((rd_T28 t338 2).f10 = true) then (none) else (if 1 < (t338.length : Int) then (if (rd_T28 t338 1).f10 = true then ((ipv6_Fragment.f ((rd_T28 t338 1).f0) ((rd_T28 t338 1).f1) ((rd_T28 t338 1).f2) ((rd_T28 t338 1).f3) ((rd_T28 t338 1).f4.f0) ((rd_T28 t338 1).f4.f1) ((rd_T28 t338 1).f4.f2) ((rd_T28 t338 1).f5.f0) ((rd_T28 t338 1).f5.f1) ((rd_T28 t338 1).f5.f2) ((rd_T28 t338 1).f6) ((rd_T28 t338 1).f7) ((rd_T28 t338 1).f8) ((rd_T28 t338 1).f9) ((rd_T28 t338 1).f10) ((rd_T28 t338 1).f11)).bind fun bt365 => (if bt365.2.2.2.2.2.2.2.2.2.2.2.toList = ([105, 106, 107, 108, 109, 110, 111, 112] : List UInt8) then ((ipv6_Routed.f kj2 t318 t319 t320 t321 t322 t323 t324 t325 t326 t327 t328 t331 t332 t333 t334 t335).bind fun t377 => (some (!t377))) else (none))) else (none)) else (none))) else (none)) else (none)) else (none)) else (none)) else (none)) else (none)))) = some r := H
   have A20 := As A200
   clear A200
   replace H := Option.bind_eq_some_iff.mp H
   obtain ⟨⟨t342, t343, t344, t345, t346, t347, t348, t349, t350, t351, t352, t355, t356, t357, t358, t359⟩, A210, H⟩ := H
   replace H : ((intrusionref12_Same.f kj2 t318 t319 t320 t321 t322 t323 t324 t325 t326 t327 t328 t331 t332 t333 t334 t335 t342 t343 t344 t345 t346 t347 t348 t349 t350 t351 t352 t355 t356 t357 t358 t359).bind fun t360 => (if t360 = true then (if t336 = 0 then (if t341 = 0 then (if (t338.length : Int) = 3 then (if 2 < (t338.length : Int) then (if ((rd_T28 t338 2).f9) = 16 then (if ((rd_T28 t338 2).f10 = true) then (none) else (if 1 < (t338.length : Int) then (if (rd_T28 t338 1).f10 = true then ((ipv6_Fragment.f ((rd_T28 t338 1).f0) ((rd_T28 t338 1).f1) ((rd_T28 t338 1).f2) ((rd_T28 t338 1).f3) ((rd_T28 t338 1).f4.f0) ((rd_T28 t338 1).f4.f1) ((rd_T28 t338 1).f4.f2) ((rd_T28 t338 1).f5.f0) ((rd_T28 t338 1).f5.f1) ((rd_T28 t338 1).f5.f2) ((rd_T28 t338 1).f6) ((rd_T28 t338 1).f7) ((rd_T28 t338 1).f8) ((rd_T28 t338 1).f9) ((rd_T28 t338 1).f10) ((rd_T28 t338 1).f11)).bind fun bt365 => (if bt365.2.2.2.2.2.2.2.2.2.2.2.toList = ([105, 106, 107, 108, 109, 110, 111, 112] : List UInt8) then ((ipv6_Routed.f kj2 t318 t319 t320 t321 t322 t323 t324 t325 t326 t327 t328 t331 t332 t333 t334 t335).bind fun t377 => (some (!t377))) else (none))) else (none)) else (none))) else (none)) else (none)) else (none)) else (none)) else (none)) else (none))) = some r := H
   have A21 := As A210
   clear A210
   replace H := Option.bind_eq_some_iff.mp H
   obtain ⟨t360, A220, H⟩ := H
   replace H : (if t360 = true then (if t336 = 0 then (if t341 = 0 then (if (t338.length : Int) = 3 then (if 2 < (t338.length : Int) then (if ((rd_T28 t338 2).f9) = 16 then (if ((rd_T28 t338 2).f10 = true) then (none) else (if 1 < (t338.length : Int) then (if (rd_T28 t338 1).f10 = true then ((ipv6_Fragment.f ((rd_T28 t338 1).f0) ((rd_T28 t338 1).f1) ((rd_T28 t338 1).f2) ((rd_T28 t338 1).f3) ((rd_T28 t338 1).f4.f0) ((rd_T28 t338 1).f4.f1) ((rd_T28 t338 1).f4.f2) ((rd_T28 t338 1).f5.f0) ((rd_T28 t338 1).f5.f1) ((rd_T28 t338 1).f5.f2) ((rd_T28 t338 1).f6) ((rd_T28 t338 1).f7) ((rd_T28 t338 1).f8) ((rd_T28 t338 1).f9) ((rd_T28 t338 1).f10) ((rd_T28 t338 1).f11)).bind fun bt365 => (if bt365.2.2.2.2.2.2.2.2.2.2.2.toList = ([105, 106, 107, 108, 109, 110, 111, 112] : List UInt8) then ((ipv6_Routed.f kj2 t318 t319 t320 t321 t322 t323 t324 t325 t326 t327 t328 t331 t332 t333 t334 t335).bind fun t377 => (some (!t377))) else (none))) else (none)) else (none))) else (none)) else (none)) else (none)) else (none)) else (none)) else (none)) = some r := H
   have A22 := As A220
   clear A220
   by_cases c23 : t360 = true
   ·subst c23
    have H1 : (if t336 = 0 then (if t341 = 0 then (if (t338.length : Int) = 3 then (if 2 < (t338.length : Int) then (if ((rd_T28 t338 2).f9) = 16 then (if ((rd_T28 t338 2).f10 = true) then (none) else (if 1 < (t338.length : Int) then (if (rd_T28 t338 1).f10 = true then ((ipv6_Fragment.f ((rd_T28 t338 1).f0) ((rd_T28 t338 1).f1) ((rd_T28 t338 1).f2) ((rd_T28 t338 1).f3) ((rd_T28 t338 1).f4.f0) ((rd_T28 t338 1).f4.f1) ((rd_T28 t338 1).f4.f2) ((rd_T28 t338 1).f5.f0) ((rd_T28 t338 1).f5.f1) ((rd_T28 t338 1).f5.f2) ((rd_T28 t338 1).f6) ((rd_T28 t338 1).f7) ((rd_T28 t338 1).f8) ((rd_T28 t338 1).f9) ((rd_T28 t338 1).f10) ((rd_T28 t338 1).f11)).bind fun bt365 => (if bt365.2.2.2.2.2.2.2.2.2.2.2.toList = ([105, 106, 107, 108, 109, 110, 111, 112] : List UInt8) then ((ipv6_Routed.f kj2 t318 t319 t320 t321 t322 t323 t324 t325 t326 t327 t328 t331 t332 t333 t334 t335).bind fun t377 => (some (!t377))) else (none))) else (none)) else (none))) else (none)) else (none)) else (none)) else (none)) else (none)) = some r := by rw [if_pos rfl] at H; exact H
    clear H
    have H := H1
    clear H1
    by_cases c24 : t336 = 0
    ·rw [if_pos c24] at H
     have c24b0 : (t336 == 0) = true := beq_iff_eq.mpr c24
     have c24b1 : (t336 != 0) = false := bne_eq_false_iff_eq.mpr c24
     clear c24
     by_cases c25 : t341 = 0
     ·rw [if_pos c25] at H
      have c25b0 : (t341 == 0) = true := beq_iff_eq.mpr c25
      have c25b1 : (t341 != 0) = false := bne_eq_false_iff_eq.mpr c25
      clear c25
      by_cases c26 : (t338.length : Int) = 3
      ·rw [if_pos c26] at H
       have c26b0 : ((t338.length : Int) == 3) = true := beq_iff_eq.mpr c26
       have c26b1 : ((t338.length : Int) != 3) = false := bne_eq_false_iff_eq.mpr c26
       clear c26
       by_cases c27 : 2 < (t338.length : Int)
       ·rw [if_pos c27] at H
        have c27b0 : decide (2 < (t338.length : Int)) = true := decide_eq_true c27
        have c27b1 : decide (2 < t338.length) = true := decide_eq_true (by omega)
        clear c27
        by_cases c28 : ((rd_T28 t338 2).f9) = 16
        ·rw [if_pos c28] at H
         have c28b0 : (((rd_T28 t338 2).f9) == 16) = true := beq_iff_eq.mpr c28
         have c28b1 : (((rd_T28 t338 2).f9) != 16) = false := bne_eq_false_iff_eq.mpr c28
         clear c28
         obtain ⟨bq29, hbq29⟩ : ∃ b_ : Bool, b_ = ((rd_T28 t338 2).f10) := ⟨_, rfl⟩
         replace H : (if (bq29 = true) then (none) else (if 1 < (t338.length : Int) then (if (rd_T28 t338 1).f10 = true then ((ipv6_Fragment.f ((rd_T28 t338 1).f0) ((rd_T28 t338 1).f1) ((rd_T28 t338 1).f2) ((rd_T28 t338 1).f3) ((rd_T28 t338 1).f4.f0) ((rd_T28 t338 1).f4.f1) ((rd_T28 t338 1).f4.f2) ((rd_T28 t338 1).f5.f0) ((rd_T28 t338 1).f5.f1) ((rd_T28 t338 1).f5.f2) ((rd_T28 t338 1).f6) ((rd_T28 t338 1).f7) ((rd_T28 t338 1).f8) ((rd_T28 t338 1).f9) ((rd_T28 t338 1).f10) ((rd_T28 t338 1).f11)).bind fun bt365 => (if bt365.2.2.2.2.2.2.2.2.2.2.2.toList = ([105, 106, 107, 108, 109, 110, 111, 112] : List UInt8) then ((ipv6_Routed.f kj2 t318 t319 t320 t321 t322 t323 t324 t325 t326 t327 t328 t331 t332 t333 t334 t335).bind fun t377 => (some (!t377))) else (none))) else (none)) else (none))) = some r := by rw [← hbq29] at H; exact H
         have Nbq29 := As hbq29
         clear hbq29
         by_cases c30 : (bq29 = true)
         ·subst c30
          have H1 : (none) = some r := by rw [if_pos rfl] at H; exact H
          clear H
          have H := H1
          clear H1
          exact absurd H (by simp)
         replace c30 := Bool.eq_false_iff.mpr c30
         subst c30
         have H1 : (if 1 < (t338.length : Int) then (if (rd_T28 t338 1).f10 = true then ((ipv6_Fragment.f ((rd_T28 t338 1).f0) ((rd_T28 t338 1).f1) ((rd_T28 t338 1).f2) ((rd_T28 t338 1).f3) ((rd_T28 t338 1).f4.f0) ((rd_T28 t338 1).f4.f1) ((rd_T28 t338 1).f4.f2) ((rd_T28 t338 1).f5.f0) ((rd_T28 t338 1).f5.f1) ((rd_T28 t338 1).f5.f2) ((rd_T28 t338 1).f6) ((rd_T28 t338 1).f7) ((rd_T28 t338 1).f8) ((rd_T28 t338 1).f9) ((rd_T28 t338 1).f10) ((rd_T28 t338 1).f11)).bind fun bt365 => (if bt365.2.2.2.2.2.2.2.2.2.2.2.toList = ([105, 106, 107, 108, 109, 110, 111, 112] : List UInt8) then ((ipv6_Routed.f kj2 t318 t319 t320 t321 t322 t323 t324 t325 t326 t327 t328 t331 t332 t333 t334 t335).bind fun t377 => (some (!t377))) else (none))) else (none)) else (none)) = some r := by rw [if_neg (show ¬ (false = true) by decide)] at H; exact H
         clear H
         have H := H1
         clear H1
         by_cases c31 : 1 < (t338.length : Int)
         ·rw [if_pos c31] at H
          have c31b0 : decide (1 < (t338.length : Int)) = true := decide_eq_true c31
          have c31b1 : decide (1 < t338.length) = true := decide_eq_true (by omega)
          clear c31
          obtain ⟨bq32, hbq32⟩ : ∃ b_ : Bool, b_ = ((rd_T28 t338 1).f10) := ⟨_, rfl⟩
          replace H : (if bq32 = true then ((ipv6_Fragment.f ((rd_T28 t338 1).f0) ((rd_T28 t338 1).f1) ((rd_T28 t338 1).f2) ((rd_T28 t338 1).f3) ((rd_T28 t338 1).f4.f0) ((rd_T28 t338 1).f4.f1) ((rd_T28 t338 1).f4.f2) ((rd_T28 t338 1).f5.f0) ((rd_T28 t338 1).f5.f1) ((rd_T28 t338 1).f5.f2) ((rd_T28 t338 1).f6) ((rd_T28 t338 1).f7) ((rd_T28 t338 1).f8) ((rd_T28 t338 1).f9) (bq32) ((rd_T28 t338 1).f11)).bind fun bt365 => (if bt365.2.2.2.2.2.2.2.2.2.2.2.toList = ([105, 106, 107, 108, 109, 110, 111, 112] : List UInt8) then ((ipv6_Routed.f kj2 t318 t319 t320 t321 t322 t323 t324 t325 t326 t327 t328 t331 t332 t333 t334 t335).bind fun t377 => (some (!t377))) else (none))) else (none)) = some r := by rw [← hbq32] at H; exact H
          have Nbq32 := As hbq32
          clear hbq32
          by_cases c33 : bq32 = true
          ·subst c33
           have H1 : ((ipv6_Fragment.f ((rd_T28 t338 1).f0) ((rd_T28 t338 1).f1) ((rd_T28 t338 1).f2) ((rd_T28 t338 1).f3) ((rd_T28 t338 1).f4.f0) ((rd_T28 t338 1).f4.f1) ((rd_T28 t338 1).f4.f2) ((rd_T28 t338 1).f5.f0) ((rd_T28 t338 1).f5.f1) ((rd_T28 t338 1).f5.f2) ((rd_T28 t338 1).f6) ((rd_T28 t338 1).f7) ((rd_T28 t338 1).f8) ((rd_T28 t338 1).f9) (true) ((rd_T28 t338 1).f11)).bind fun bt365 => (if bt365.2.2.2.2.2.2.2.2.2.2.2.toList = ([105, 106, 107, 108, 109, 110, 111, 112] : List UInt8) then ((ipv6_Routed.f kj2 t318 t319 t320 t321 t322 t323 t324 t325 t326 t327 t328 t331 t332 t333 t334 t335).bind fun t377 => (some (!t377))) else (none))) = some r := by rw [if_pos rfl] at H; exact H
           clear H
           have H := H1
           clear H1
           replace H := Option.bind_eq_some_iff.mp H
           obtain ⟨⟨t365, t366, t367, t368, t369, t370, t371, t372, t373, t374, t375, t376⟩, A340, H⟩ := H
           replace H : (if t376.toList = ([105, 106, 107, 108, 109, 110, 111, 112] : List UInt8) then ((ipv6_Routed.f kj2 t318 t319 t320 t321 t322 t323 t324 t325 t326 t327 t328 t331 t332 t333 t334 t335).bind fun t377 => (some (!t377))) else (none)) = some r := H
           have A34 := As A340
           clear A340
           by_cases c35 : t376.toList = ([105, 106, 107, 108, 109, 110, 111, 112] : List UInt8)
           ·rw [if_pos c35] at H
            have c35b0 : (t376.toList == ([105, 106, 107, 108, 109, 110, 111, 112] : List UInt8)) = true := beq_iff_eq.mpr c35
            have c35b1 : (t376.toList != ([105, 106, 107, 108, 109, 110, 111, 112] : List UInt8)) = false := bne_eq_false_iff_eq.mpr c35
            clear c35
            replace H := Option.bind_eq_some_iff.mp H
            obtain ⟨t377, A360, H⟩ := H
            replace H : (some (!t377)) = some r := H
            have A36 := As A360
            clear A360
            obtain rfl := Option.some.inj H
            try go_wp2_with (first | ((with_reducible refine gate_callee (f := 11) rfl ?_); refine goesL_ (some 37) rfl rfl Try.func11 (by kernel_rfl) rfl #[.string (t316 ++ (⟨#[33]⟩ : ByteArray))] rfl kA ?_; (with_reducible refine (ipv6_Decode.calls kj2 (t316 ++ (⟨#[33]⟩ : ByteArray)) t318 t319 t320 t321 t322 t323 t324 t325 t326 t327 t328 t331 t332 t333 t334 t335 t336 _ A19.out).mono ?_); rintro e w37 ⟨v329, rfl, ho0, hb⟩; refine ⟨_, rfl, ?_⟩; have HO330 := As (Kd.R_lower ho0 (below_size (kB HB.out))); replace HB := As (below_step (kB HB.out) hb); (try clear hb); (try clear ho0)) | ((with_reducible refine gate_dst (N := 3) rfl ?_); (try (refine gate_guard (by rfl) ?_; dsimp only)); refine box_event rfl (N := 3) rfl (cs := #[.int .i64 0, .int .i64 0, .int .i64 0, .int .i64 0, .bool false, .int .u64 0, .int .u64 0, .bool false, .int .u64 0, .int .u64 0, .slice none 0 0, .bool false, .int .i64 0, .int .i64 0, .bool false, .string (⟨#[]⟩ : ByteArray)]) (t := 28) kG ?_; intro gb337 hg w38 hbox hb; replace HO330 := As (Kd.R_below (kR HO330.out) hb); have BK337 := As (hbox); have GW337 := As ((by rw [hg]; exact (below_size (kB HB.out)) : w.heap.size ≤ gb337)); have GE337 := As ((by rw [hg]; exact (below_size (kB HB.out)) : w.heap.size ≤ gb337)); replace HB := As (below_step (kB HB.out) hb); clear hb hbox hg; obtain ⟨Ao39, co39, eo39⟩ := Kd.R_slice HO330.out; subst eo39) | ((with_reducible refine gate_store (t := 28) (p := 3) rfl ?_); refine store_rowev_16 gb337 (.int .i64 t318) (.int .i64 t319) (.int .i64 t320) (.int .i64 t321) (.bool t322) (.int .u64 t323) (.int .u64 t324) (.bool t325) (.int .u64 t326) (.int .u64 t327) (.slice Ao39 t328.length co39) (.bool t331) (.int .i64 t332) (.int .i64 t333) (.bool t334) (.string t335) rfl (t := 28) (p := 3) (v := _) rfl rfl rfl rfl (t' := 28) (kb BK337.out) (by rfl) (by kernel_rfl) (by rfl) ?_) | ((with_reducible refine gate_callee (f := 17) rfl ?_); refine goesL_ (some 44) rfl rfl Try.func17 (by kernel_rfl) rfl #[.agg #[.int .i64 0, .int .i64 0, .int .i64 0, .int .i64 6, .bool true, .int .u64 0, .int .u64 0, .bool true, .int .u64 0, .int .u64 0, .slice none 0 0, .bool false, .int .i64 0, .int .i64 0, .bool false, .string (⟨#[97, 98, 99, 100, 101, 102, 103, 104, 105, 106, 107, 108, 109, 110, 111, 112, 113, 114, 115, 116]⟩ : ByteArray)], .int .i64 8, .int .i64 7] rfl kA ?_; (refine (ipv6_Split.calls kj2 0 0 0 6 true 0 0 true 0 0 _ _ ([] : List (S60)) false 0 0 false (⟨#[97, 98, 99, 100, 101, 102, 103, 104, 105, 106, 107, 108, 109, 110, 111, 112, 113, 114, 115, 116]⟩ : ByteArray) 8 7 t338 t341 _ ?side1 ?side2 A20.out).mono ?_); (case side1 => exact Kd.C_nil _ _); (case side2 => exact Nat.le_refl _); rintro e w40 ⟨v339, rfl, ho0, hb⟩; refine ⟨_, rfl, ?_⟩; have HO340 := As (Kd.S_lower (Kd.S_newB (Kd.S_new' ho0 (Kd.R_lt (by refine kR ?_; exact (Kd.R_mono (Kd.R_puts_0_16 gb337 (.int .i64 t318) (.int .i64 t319) (.int .i64 t320) (.int .i64 t321) (.bool t322) (.int .u64 t323) (.int .u64 t324) (.bool t325) (.int .u64 t326) (.int .u64 t327) (.slice Ao39 t328.length co39) (.bool t331) (.int .i64 t332) (.int .i64 t333) (.bool t334) (.string t335) (Kd.R_types HO330.out BK337.out (by decide)) (fun _ hk => hk.2)) (fun _ h_ => h_.1))))) (g := gb337) (o := .cells #[.int .i64 t318, .int .i64 t319, .int .i64 t320, .int .i64 t321, .bool t322, .int .u64 t323, .int .u64 t324, .bool t325, .int .u64 t326, .int .u64 t327, .slice Ao39 t328.length co39, .bool t331, .int .i64 t332, .int .i64 t333, .bool t334, .string t335] 28 (0, 0)) (by refine kb ?_; exact blk_all_16 (kb BK337.out) (by rfl))) (below_size (kB1 HB.out GE337.out))); replace HO330 := As (Kd.R_below (by refine kR ?_; exact (Kd.R_mono (Kd.R_puts_0_16 gb337 (.int .i64 t318) (.int .i64 t319) (.int .i64 t320) (.int .i64 t321) (.bool t322) (.int .u64 t323) (.int .u64 t324) (.bool t325) (.int .u64 t326) (.int .u64 t327) (.slice Ao39 t328.length co39) (.bool t331) (.int .i64 t332) (.int .i64 t333) (.bool t334) (.string t335) (Kd.R_types HO330.out BK337.out (by decide)) (fun _ hk => hk.2)) (fun _ h_ => h_.1))) hb); replace BK337 := As (blk_below (g := gb337) (o := .cells #[.int .i64 t318, .int .i64 t319, .int .i64 t320, .int .i64 t321, .bool t322, .int .u64 t323, .int .u64 t324, .bool t325, .int .u64 t326, .int .u64 t327, .slice Ao39 t328.length co39, .bool t331, .int .i64 t332, .int .i64 t333, .bool t334, .string t335] 28 (0, 0)) (by refine kb ?_; exact blk_all_16 (kb BK337.out) (by rfl)) hb); replace HB := As (below_step (kB1 HB.out GE337.out) hb); (try clear hb); (try clear hk); (try clear ho0); obtain ⟨Ao41, co41, eo41⟩ := Kd.S_slice HO340.out; subst eo41))
            replace HO330 := As (Kd.R_drew HO330.out)
            replace HO340 := As (Kd.S_drew HO340.out)
            replace BK337 := As (blk_drew BK337.out)
            replace HB := As (below_drew1 HB.out)
            have p361 : 0 ≤ (2 : Int) := (by omega)
            have q361 : 2 < (t338.length : Int) := of_decide_eq_true (by first | (with_reducible assumption) | assumption)
            obtain ⟨ad361, A361_10, c361_10, e361, hx361_0, hx361_1, hx361_2, hx361_3, hx361_4, hx361_5, hx361_6, hx361_7, hx361_8, hx361_9, hx361_10, hx361_11, hx361_12, hx361_13, hx361_14, hx361_15, hl361_10, hi361_10⟩ := at_T28 (Kd.S_reads' HO340.out).2.2 2 p361 q361
            (try rw [← Nbq29.out] at hx361_4)
            (try rw [← Nbq32.out] at hx361_4)
            (try rw [← Nbq29.out] at hx361_7)
            (try rw [← Nbq32.out] at hx361_7)
            (try rw [← Nbq29.out] at hx361_11)
            (try rw [← Nbq32.out] at hx361_11)
            (try rw [← Nbq29.out] at hx361_14)
            (try rw [← Nbq32.out] at hx361_14)
            cases e361
            obtain ⟨ce361, hce361, hMe361, hcc361⟩ := Kd.S_get HO340.out z28 2 p361 (by first | exact q361 | exact of_decide_eq_true (by first | (with_reducible assumption) | assumption) | (have e_ := (Kd.S_reads' HO340.out).1; omega))
            obtain ⟨ve361_10, rfl, ge361_10⟩ := k28_openM hMe361
            have hv361_10 := hcc361 10 _ rfl
            rw [add_field _ _ 10 (by omega)] at hv361_10
            replace hv361_10 := Option.some.inj (hv361_10.symm.trans hx361_10)
            rw [hv361_10] at ge361_10
            have HL361_10 := As (show Kd.R k60 60 _ _ _ _ ((rd_T28 t338 2).f6) from ge361_10)
            clear hv361_10 ge361_10
            clear hcc361 hce361
            (try simp only [show (2 : Int).toNat = 2 from rfl, Nat.reduceMul, Nat.reduceEqDiff, Go.Addr.add, ↓reduceIte] at hx361_0 hx361_1 hx361_2 hx361_3 hx361_4 hx361_5 hx361_6 hx361_7 hx361_8 hx361_9 hx361_10 hx361_11 hx361_12 hx361_13 hx361_14 hx361_15)
            have qi361 : (2 < t338.length) = True := eq_true (by omega)
            (try rw [show ((2 : Int)).toNat = 2 from rfl] at hx361_0)
            (try rw [show 2 * 16 = 32 from rfl] at hx361_0)
            (try rw [show ((2 : Int)).toNat = 2 from rfl] at hx361_1)
            (try rw [show 2 * 16 = 32 from rfl] at hx361_1)
            (try rw [show ((2 : Int)).toNat = 2 from rfl] at hx361_2)
            (try rw [show 2 * 16 = 32 from rfl] at hx361_2)
            (try rw [show ((2 : Int)).toNat = 2 from rfl] at hx361_3)
            (try rw [show 2 * 16 = 32 from rfl] at hx361_3)
            (try rw [show ((2 : Int)).toNat = 2 from rfl] at hx361_4)
            (try rw [show 2 * 16 = 32 from rfl] at hx361_4)
            (try rw [show ((2 : Int)).toNat = 2 from rfl] at hx361_5)
            (try rw [show 2 * 16 = 32 from rfl] at hx361_5)
            (try rw [show ((2 : Int)).toNat = 2 from rfl] at hx361_6)
            (try rw [show 2 * 16 = 32 from rfl] at hx361_6)
            (try rw [show ((2 : Int)).toNat = 2 from rfl] at hx361_7)
            (try rw [show 2 * 16 = 32 from rfl] at hx361_7)
            (try rw [show ((2 : Int)).toNat = 2 from rfl] at hx361_8)
            (try rw [show 2 * 16 = 32 from rfl] at hx361_8)
            (try rw [show ((2 : Int)).toNat = 2 from rfl] at hx361_9)
            (try rw [show 2 * 16 = 32 from rfl] at hx361_9)
            (try rw [show ((2 : Int)).toNat = 2 from rfl] at hx361_10)
            (try rw [show 2 * 16 = 32 from rfl] at hx361_10)
            (try rw [show ((2 : Int)).toNat = 2 from rfl] at hx361_11)
            (try rw [show 2 * 16 = 32 from rfl] at hx361_11)
            (try rw [show ((2 : Int)).toNat = 2 from rfl] at hx361_12)
            (try rw [show 2 * 16 = 32 from rfl] at hx361_12)
            (try rw [show ((2 : Int)).toNat = 2 from rfl] at hx361_13)
            (try rw [show 2 * 16 = 32 from rfl] at hx361_13)
            (try rw [show ((2 : Int)).toNat = 2 from rfl] at hx361_14)
            (try rw [show 2 * 16 = 32 from rfl] at hx361_14)
            (try rw [show ((2 : Int)).toNat = 2 from rfl] at hx361_15)
            (try rw [show 2 * 16 = 32 from rfl] at hx361_15)
            have HR361_10 := As hi361_10
            have HC361_10 := As hl361_10
            clear hi361_10 hl361_10
            replace p361 := eq_true p361
            replace q361 := eq_true q361
            have p362 : 0 ≤ (2 : Int) := (by omega)
            have q362 : 2 < (t338.length : Int) := of_decide_eq_true (by first | (with_reducible assumption) | assumption)
            obtain ⟨ad362, A362_10, c362_10, e362, hx362_0, hx362_1, hx362_2, hx362_3, hx362_4, hx362_5, hx362_6, hx362_7, hx362_8, hx362_9, hx362_10, hx362_11, hx362_12, hx362_13, hx362_14, hx362_15, hl362_10, hi362_10⟩ := at_T28 (Kd.S_reads' HO340.out).2.2 2 p362 q362
            (try rw [← Nbq29.out] at hx362_4)
            (try rw [← Nbq32.out] at hx362_4)
            (try rw [← Nbq29.out] at hx362_7)
            (try rw [← Nbq32.out] at hx362_7)
            (try rw [← Nbq29.out] at hx362_11)
            (try rw [← Nbq32.out] at hx362_11)
            (try rw [← Nbq29.out] at hx362_14)
            (try rw [← Nbq32.out] at hx362_14)
            obtain rfl : ad361 = ad362 := (by injection e362)
            obtain ⟨ce362, hce362, hMe362, hcc362⟩ := Kd.S_get HO340.out z28 2 p362 (by first | exact q362 | exact of_decide_eq_true (by first | (with_reducible assumption) | assumption) | (have e_ := (Kd.S_reads' HO340.out).1; omega))
            obtain ⟨ve362_10, rfl, ge362_10⟩ := k28_openM hMe362
            have hv362_10 := hcc362 10 _ rfl
            rw [add_field _ _ 10 (by omega)] at hv362_10
            replace hv362_10 := Option.some.inj (hv362_10.symm.trans hx362_10)
            rw [hv362_10] at ge362_10
            have HL362_10 := As (show Kd.R k60 60 _ _ _ _ ((rd_T28 t338 2).f6) from ge362_10)
            clear hv362_10 ge362_10
            clear hcc362 hce362
            (try simp only [show (2 : Int).toNat = 2 from rfl, Nat.reduceMul, Nat.reduceEqDiff, Go.Addr.add, ↓reduceIte] at hx362_0 hx362_1 hx362_2 hx362_3 hx362_4 hx362_5 hx362_6 hx362_7 hx362_8 hx362_9 hx362_10 hx362_11 hx362_12 hx362_13 hx362_14 hx362_15)
            have qi362 : (2 < t338.length) = True := eq_true (by omega)
            (try rw [show ((2 : Int)).toNat = 2 from rfl] at hx362_0)
            (try rw [show 2 * 16 = 32 from rfl] at hx362_0)
            (try rw [show ((2 : Int)).toNat = 2 from rfl] at hx362_1)
            (try rw [show 2 * 16 = 32 from rfl] at hx362_1)
            (try rw [show ((2 : Int)).toNat = 2 from rfl] at hx362_2)
            (try rw [show 2 * 16 = 32 from rfl] at hx362_2)
            (try rw [show ((2 : Int)).toNat = 2 from rfl] at hx362_3)
            (try rw [show 2 * 16 = 32 from rfl] at hx362_3)
            (try rw [show ((2 : Int)).toNat = 2 from rfl] at hx362_4)
            (try rw [show 2 * 16 = 32 from rfl] at hx362_4)
            (try rw [show ((2 : Int)).toNat = 2 from rfl] at hx362_5)
            (try rw [show 2 * 16 = 32 from rfl] at hx362_5)
            (try rw [show ((2 : Int)).toNat = 2 from rfl] at hx362_6)
            (try rw [show 2 * 16 = 32 from rfl] at hx362_6)
            (try rw [show ((2 : Int)).toNat = 2 from rfl] at hx362_7)
            (try rw [show 2 * 16 = 32 from rfl] at hx362_7)
            (try rw [show ((2 : Int)).toNat = 2 from rfl] at hx362_8)
            (try rw [show 2 * 16 = 32 from rfl] at hx362_8)
            (try rw [show ((2 : Int)).toNat = 2 from rfl] at hx362_9)
            (try rw [show 2 * 16 = 32 from rfl] at hx362_9)
            (try rw [show ((2 : Int)).toNat = 2 from rfl] at hx362_10)
            (try rw [show 2 * 16 = 32 from rfl] at hx362_10)
            (try rw [show ((2 : Int)).toNat = 2 from rfl] at hx362_11)
            (try rw [show 2 * 16 = 32 from rfl] at hx362_11)
            (try rw [show ((2 : Int)).toNat = 2 from rfl] at hx362_12)
            (try rw [show 2 * 16 = 32 from rfl] at hx362_12)
            (try rw [show ((2 : Int)).toNat = 2 from rfl] at hx362_13)
            (try rw [show 2 * 16 = 32 from rfl] at hx362_13)
            (try rw [show ((2 : Int)).toNat = 2 from rfl] at hx362_14)
            (try rw [show 2 * 16 = 32 from rfl] at hx362_14)
            (try rw [show ((2 : Int)).toNat = 2 from rfl] at hx362_15)
            (try rw [show 2 * 16 = 32 from rfl] at hx362_15)
            have HR362_10 := As hi362_10
            have HC362_10 := As hl362_10
            clear hi362_10 hl362_10
            replace p362 := eq_true p362
            replace q362 := eq_true q362
            have ea_ := Option.some.inj (hx361_10.symm.trans hx362_10)
            injection ea_ with ea_ en_ ec_
            subst ea_
            subst ec_
            clear en_
            have p363 : 0 ≤ (1 : Int) := (by omega)
            have q363 : 1 < (t338.length : Int) := of_decide_eq_true (by first | (with_reducible assumption) | assumption)
            obtain ⟨ad363, A363_10, c363_10, e363, hx363_0, hx363_1, hx363_2, hx363_3, hx363_4, hx363_5, hx363_6, hx363_7, hx363_8, hx363_9, hx363_10, hx363_11, hx363_12, hx363_13, hx363_14, hx363_15, hl363_10, hi363_10⟩ := at_T28 (Kd.S_reads' HO340.out).2.2 1 p363 q363
            (try rw [← Nbq29.out] at hx363_4)
            (try rw [← Nbq32.out] at hx363_4)
            (try rw [← Nbq29.out] at hx363_7)
            (try rw [← Nbq32.out] at hx363_7)
            (try rw [← Nbq29.out] at hx363_11)
            (try rw [← Nbq32.out] at hx363_11)
            (try rw [← Nbq29.out] at hx363_14)
            (try rw [← Nbq32.out] at hx363_14)
            obtain rfl : ad361 = ad363 := (by injection e363)
            obtain ⟨ce363, hce363, hMe363, hcc363⟩ := Kd.S_get HO340.out z28 1 p363 (by first | exact q363 | exact of_decide_eq_true (by first | (with_reducible assumption) | assumption) | (have e_ := (Kd.S_reads' HO340.out).1; omega))
            obtain ⟨ve363_10, rfl, ge363_10⟩ := k28_openM hMe363
            have hv363_10 := hcc363 10 _ rfl
            rw [add_field _ _ 10 (by omega)] at hv363_10
            replace hv363_10 := Option.some.inj (hv363_10.symm.trans hx363_10)
            rw [hv363_10] at ge363_10
            have HL363_10 := As (show Kd.R k60 60 _ _ _ _ ((rd_T28 t338 1).f6) from ge363_10)
            clear hv363_10 ge363_10
            clear hcc363 hce363
            (try simp only [show (1 : Int).toNat = 1 from rfl, Nat.reduceMul, Nat.reduceEqDiff, Go.Addr.add, ↓reduceIte] at hx363_0 hx363_1 hx363_2 hx363_3 hx363_4 hx363_5 hx363_6 hx363_7 hx363_8 hx363_9 hx363_10 hx363_11 hx363_12 hx363_13 hx363_14 hx363_15)
            have qi363 : (1 < t338.length) = True := eq_true (by omega)
            (try rw [show ((1 : Int)).toNat = 1 from rfl] at hx363_0)
            (try rw [show 1 * 16 = 16 from rfl] at hx363_0)
            (try rw [show ((1 : Int)).toNat = 1 from rfl] at hx363_1)
            (try rw [show 1 * 16 = 16 from rfl] at hx363_1)
            (try rw [show ((1 : Int)).toNat = 1 from rfl] at hx363_2)
            (try rw [show 1 * 16 = 16 from rfl] at hx363_2)
            (try rw [show ((1 : Int)).toNat = 1 from rfl] at hx363_3)
            (try rw [show 1 * 16 = 16 from rfl] at hx363_3)
            (try rw [show ((1 : Int)).toNat = 1 from rfl] at hx363_4)
            (try rw [show 1 * 16 = 16 from rfl] at hx363_4)
            (try rw [show ((1 : Int)).toNat = 1 from rfl] at hx363_5)
            (try rw [show 1 * 16 = 16 from rfl] at hx363_5)
            (try rw [show ((1 : Int)).toNat = 1 from rfl] at hx363_6)
            (try rw [show 1 * 16 = 16 from rfl] at hx363_6)
            (try rw [show ((1 : Int)).toNat = 1 from rfl] at hx363_7)
            (try rw [show 1 * 16 = 16 from rfl] at hx363_7)
            (try rw [show ((1 : Int)).toNat = 1 from rfl] at hx363_8)
            (try rw [show 1 * 16 = 16 from rfl] at hx363_8)
            (try rw [show ((1 : Int)).toNat = 1 from rfl] at hx363_9)
            (try rw [show 1 * 16 = 16 from rfl] at hx363_9)
            (try rw [show ((1 : Int)).toNat = 1 from rfl] at hx363_10)
            (try rw [show 1 * 16 = 16 from rfl] at hx363_10)
            (try rw [show ((1 : Int)).toNat = 1 from rfl] at hx363_11)
            (try rw [show 1 * 16 = 16 from rfl] at hx363_11)
            (try rw [show ((1 : Int)).toNat = 1 from rfl] at hx363_12)
            (try rw [show 1 * 16 = 16 from rfl] at hx363_12)
            (try rw [show ((1 : Int)).toNat = 1 from rfl] at hx363_13)
            (try rw [show 1 * 16 = 16 from rfl] at hx363_13)
            (try rw [show ((1 : Int)).toNat = 1 from rfl] at hx363_14)
            (try rw [show 1 * 16 = 16 from rfl] at hx363_14)
            (try rw [show ((1 : Int)).toNat = 1 from rfl] at hx363_15)
            (try rw [show 1 * 16 = 16 from rfl] at hx363_15)
            have HR363_10 := As hi363_10
            have HC363_10 := As hl363_10
            clear hi363_10 hl363_10
            replace p363 := eq_true p363
            replace q363 := eq_true q363
            have p364 : 0 ≤ (1 : Int) := (by omega)
            have q364 : 1 < (t338.length : Int) := of_decide_eq_true (by first | (with_reducible assumption) | assumption)
            obtain ⟨ad364, A364_10, c364_10, e364, hx364_0, hx364_1, hx364_2, hx364_3, hx364_4, hx364_5, hx364_6, hx364_7, hx364_8, hx364_9, hx364_10, hx364_11, hx364_12, hx364_13, hx364_14, hx364_15, hl364_10, hi364_10⟩ := at_T28 (Kd.S_reads' HO340.out).2.2 1 p364 q364
            (try rw [← Nbq29.out] at hx364_4)
            (try rw [← Nbq32.out] at hx364_4)
            (try rw [← Nbq29.out] at hx364_7)
            (try rw [← Nbq32.out] at hx364_7)
            (try rw [← Nbq29.out] at hx364_11)
            (try rw [← Nbq32.out] at hx364_11)
            (try rw [← Nbq29.out] at hx364_14)
            (try rw [← Nbq32.out] at hx364_14)
            obtain rfl : ad361 = ad364 := (by injection e364)
            obtain ⟨ce364, hce364, hMe364, hcc364⟩ := Kd.S_get HO340.out z28 1 p364 (by first | exact q364 | exact of_decide_eq_true (by first | (with_reducible assumption) | assumption) | (have e_ := (Kd.S_reads' HO340.out).1; omega))
            obtain ⟨ve364_10, rfl, ge364_10⟩ := k28_openM hMe364
            have hv364_10 := hcc364 10 _ rfl
            rw [add_field _ _ 10 (by omega)] at hv364_10
            replace hv364_10 := Option.some.inj (hv364_10.symm.trans hx364_10)
            rw [hv364_10] at ge364_10
            have HL364_10 := As (show Kd.R k60 60 _ _ _ _ ((rd_T28 t338 1).f6) from ge364_10)
            clear hv364_10 ge364_10
            clear hcc364 hce364
            (try simp only [show (1 : Int).toNat = 1 from rfl, Nat.reduceMul, Nat.reduceEqDiff, Go.Addr.add, ↓reduceIte] at hx364_0 hx364_1 hx364_2 hx364_3 hx364_4 hx364_5 hx364_6 hx364_7 hx364_8 hx364_9 hx364_10 hx364_11 hx364_12 hx364_13 hx364_14 hx364_15)
            have qi364 : (1 < t338.length) = True := eq_true (by omega)
            (try rw [show ((1 : Int)).toNat = 1 from rfl] at hx364_0)
            (try rw [show 1 * 16 = 16 from rfl] at hx364_0)
            (try rw [show ((1 : Int)).toNat = 1 from rfl] at hx364_1)
            (try rw [show 1 * 16 = 16 from rfl] at hx364_1)
            (try rw [show ((1 : Int)).toNat = 1 from rfl] at hx364_2)
            (try rw [show 1 * 16 = 16 from rfl] at hx364_2)
            (try rw [show ((1 : Int)).toNat = 1 from rfl] at hx364_3)
            (try rw [show 1 * 16 = 16 from rfl] at hx364_3)
            (try rw [show ((1 : Int)).toNat = 1 from rfl] at hx364_4)
            (try rw [show 1 * 16 = 16 from rfl] at hx364_4)
            (try rw [show ((1 : Int)).toNat = 1 from rfl] at hx364_5)
            (try rw [show 1 * 16 = 16 from rfl] at hx364_5)
            (try rw [show ((1 : Int)).toNat = 1 from rfl] at hx364_6)
            (try rw [show 1 * 16 = 16 from rfl] at hx364_6)
            (try rw [show ((1 : Int)).toNat = 1 from rfl] at hx364_7)
            (try rw [show 1 * 16 = 16 from rfl] at hx364_7)
            (try rw [show ((1 : Int)).toNat = 1 from rfl] at hx364_8)
            (try rw [show 1 * 16 = 16 from rfl] at hx364_8)
            (try rw [show ((1 : Int)).toNat = 1 from rfl] at hx364_9)
            (try rw [show 1 * 16 = 16 from rfl] at hx364_9)
            (try rw [show ((1 : Int)).toNat = 1 from rfl] at hx364_10)
            (try rw [show 1 * 16 = 16 from rfl] at hx364_10)
            (try rw [show ((1 : Int)).toNat = 1 from rfl] at hx364_11)
            (try rw [show 1 * 16 = 16 from rfl] at hx364_11)
            (try rw [show ((1 : Int)).toNat = 1 from rfl] at hx364_12)
            (try rw [show 1 * 16 = 16 from rfl] at hx364_12)
            (try rw [show ((1 : Int)).toNat = 1 from rfl] at hx364_13)
            (try rw [show 1 * 16 = 16 from rfl] at hx364_13)
            (try rw [show ((1 : Int)).toNat = 1 from rfl] at hx364_14)
            (try rw [show 1 * 16 = 16 from rfl] at hx364_14)
            (try rw [show ((1 : Int)).toNat = 1 from rfl] at hx364_15)
            (try rw [show 1 * 16 = 16 from rfl] at hx364_15)
            have HR364_10 := As hi364_10
            have HC364_10 := As hl364_10
            clear hi364_10 hl364_10
            replace p364 := eq_true p364
            replace q364 := eq_true q364
            have ea_ := Option.some.inj (hx363_10.symm.trans hx364_10)
            injection ea_ with ea_ en_ ec_
            subst ea_
            subst ec_
            clear en_
            refine start_ (n := 50) (S := fun w' => w'.cell? ⟨gb337, 0, none⟩ = some (.int .i64 t318) ∧ w'.cell? ⟨gb337, 1, none⟩ = some (.int .i64 t319) ∧ w'.cell? ⟨gb337, 2, none⟩ = some (.int .i64 t320) ∧ w'.cell? ⟨gb337, 3, none⟩ = some (.int .i64 t321) ∧ w'.cell? ⟨gb337, 4, none⟩ = some (.bool t322) ∧ w'.cell? ⟨gb337, 5, none⟩ = some (.int .u64 t323) ∧ w'.cell? ⟨gb337, 6, none⟩ = some (.int .u64 t324) ∧ w'.cell? ⟨gb337, 7, none⟩ = some (.bool t325) ∧ w'.cell? ⟨gb337, 8, none⟩ = some (.int .u64 t326) ∧ w'.cell? ⟨gb337, 9, none⟩ = some (.int .u64 t327) ∧ w'.cell? ⟨gb337, 10, none⟩ = some (.slice Ao39 t328.length co39) ∧ w'.cell? ⟨gb337, 11, none⟩ = some (.bool t331) ∧ w'.cell? ⟨gb337, 12, none⟩ = some (.int .i64 t332) ∧ w'.cell? ⟨gb337, 13, none⟩ = some (.int .i64 t333) ∧ w'.cell? ⟨gb337, 14, none⟩ = some (.bool t334) ∧ w'.cell? ⟨gb337, 15, none⟩ = some (.string t335) ∧ w'.cell? ⟨ad361.block, ad361.off + 32, none⟩ = some (.int .i64 ((rd_T28 t338 2).f0)) ∧ w'.cell? ⟨ad361.block, ad361.off + 32 + 1, none⟩ = some (.int .i64 ((rd_T28 t338 2).f1)) ∧ w'.cell? ⟨ad361.block, ad361.off + 32 + 2, none⟩ = some (.int .i64 ((rd_T28 t338 2).f2)) ∧ w'.cell? ⟨ad361.block, ad361.off + 32 + 3, none⟩ = some (.int .i64 ((rd_T28 t338 2).f3)) ∧ w'.cell? ⟨ad361.block, ad361.off + 32 + 4, none⟩ = some (.bool ((rd_T28 t338 2).f4.f0)) ∧ w'.cell? ⟨ad361.block, ad361.off + 32 + 5, none⟩ = some (.int .u64 ((rd_T28 t338 2).f4.f1)) ∧ w'.cell? ⟨ad361.block, ad361.off + 32 + 6, none⟩ = some (.int .u64 ((rd_T28 t338 2).f4.f2)) ∧ w'.cell? ⟨ad361.block, ad361.off + 32 + 7, none⟩ = some (.bool ((rd_T28 t338 2).f5.f0)) ∧ w'.cell? ⟨ad361.block, ad361.off + 32 + 8, none⟩ = some (.int .u64 ((rd_T28 t338 2).f5.f1)) ∧ w'.cell? ⟨ad361.block, ad361.off + 32 + 9, none⟩ = some (.int .u64 ((rd_T28 t338 2).f5.f2)) ∧ w'.cell? ⟨ad361.block, ad361.off + 32 + 10, none⟩ = some (.slice A361_10 ((rd_T28 t338 2).f6).length c361_10) ∧ w'.cell? ⟨ad361.block, ad361.off + 32 + 11, none⟩ = some (.bool ((rd_T28 t338 2).f7)) ∧ w'.cell? ⟨ad361.block, ad361.off + 32 + 12, none⟩ = some (.int .i64 ((rd_T28 t338 2).f8)) ∧ w'.cell? ⟨ad361.block, ad361.off + 32 + 13, none⟩ = some (.int .i64 ((rd_T28 t338 2).f9)) ∧ w'.cell? ⟨ad361.block, ad361.off + 32 + 14, none⟩ = some (.bool false) ∧ w'.cell? ⟨ad361.block, ad361.off + 32 + 15, none⟩ = some (.string ((rd_T28 t338 2).f11)) ∧ w'.cell? ⟨ad361.block, ad361.off + 32, none⟩ = some (.int .i64 ((rd_T28 t338 2).f0)) ∧ w'.cell? ⟨ad361.block, ad361.off + 32 + 1, none⟩ = some (.int .i64 ((rd_T28 t338 2).f1)) ∧ w'.cell? ⟨ad361.block, ad361.off + 32 + 2, none⟩ = some (.int .i64 ((rd_T28 t338 2).f2)) ∧ w'.cell? ⟨ad361.block, ad361.off + 32 + 3, none⟩ = some (.int .i64 ((rd_T28 t338 2).f3)) ∧ w'.cell? ⟨ad361.block, ad361.off + 32 + 4, none⟩ = some (.bool ((rd_T28 t338 2).f4.f0)) ∧ w'.cell? ⟨ad361.block, ad361.off + 32 + 5, none⟩ = some (.int .u64 ((rd_T28 t338 2).f4.f1)) ∧ w'.cell? ⟨ad361.block, ad361.off + 32 + 6, none⟩ = some (.int .u64 ((rd_T28 t338 2).f4.f2)) ∧ w'.cell? ⟨ad361.block, ad361.off + 32 + 7, none⟩ = some (.bool ((rd_T28 t338 2).f5.f0)) ∧ w'.cell? ⟨ad361.block, ad361.off + 32 + 8, none⟩ = some (.int .u64 ((rd_T28 t338 2).f5.f1)) ∧ w'.cell? ⟨ad361.block, ad361.off + 32 + 9, none⟩ = some (.int .u64 ((rd_T28 t338 2).f5.f2)) ∧ w'.cell? ⟨ad361.block, ad361.off + 32 + 10, none⟩ = some (.slice A361_10 ((rd_T28 t338 2).f6).length c361_10) ∧ w'.cell? ⟨ad361.block, ad361.off + 32 + 11, none⟩ = some (.bool ((rd_T28 t338 2).f7)) ∧ w'.cell? ⟨ad361.block, ad361.off + 32 + 12, none⟩ = some (.int .i64 ((rd_T28 t338 2).f8)) ∧ w'.cell? ⟨ad361.block, ad361.off + 32 + 13, none⟩ = some (.int .i64 ((rd_T28 t338 2).f9)) ∧ w'.cell? ⟨ad361.block, ad361.off + 32 + 14, none⟩ = some (.bool false) ∧ w'.cell? ⟨ad361.block, ad361.off + 32 + 15, none⟩ = some (.string ((rd_T28 t338 2).f11)) ∧ w'.cell? ⟨ad361.block, ad361.off + 16, none⟩ = some (.int .i64 ((rd_T28 t338 1).f0)) ∧ w'.cell? ⟨ad361.block, ad361.off + 16 + 1, none⟩ = some (.int .i64 ((rd_T28 t338 1).f1)) ∧ w'.cell? ⟨ad361.block, ad361.off + 16 + 2, none⟩ = some (.int .i64 ((rd_T28 t338 1).f2)) ∧ w'.cell? ⟨ad361.block, ad361.off + 16 + 3, none⟩ = some (.int .i64 ((rd_T28 t338 1).f3)) ∧ w'.cell? ⟨ad361.block, ad361.off + 16 + 4, none⟩ = some (.bool ((rd_T28 t338 1).f4.f0)) ∧ w'.cell? ⟨ad361.block, ad361.off + 16 + 5, none⟩ = some (.int .u64 ((rd_T28 t338 1).f4.f1)) ∧ w'.cell? ⟨ad361.block, ad361.off + 16 + 6, none⟩ = some (.int .u64 ((rd_T28 t338 1).f4.f2)) ∧ w'.cell? ⟨ad361.block, ad361.off + 16 + 7, none⟩ = some (.bool ((rd_T28 t338 1).f5.f0)) ∧ w'.cell? ⟨ad361.block, ad361.off + 16 + 8, none⟩ = some (.int .u64 ((rd_T28 t338 1).f5.f1)) ∧ w'.cell? ⟨ad361.block, ad361.off + 16 + 9, none⟩ = some (.int .u64 ((rd_T28 t338 1).f5.f2)) ∧ w'.cell? ⟨ad361.block, ad361.off + 16 + 10, none⟩ = some (.slice A363_10 ((rd_T28 t338 1).f6).length c363_10) ∧ w'.cell? ⟨ad361.block, ad361.off + 16 + 11, none⟩ = some (.bool ((rd_T28 t338 1).f7)) ∧ w'.cell? ⟨ad361.block, ad361.off + 16 + 12, none⟩ = some (.int .i64 ((rd_T28 t338 1).f8)) ∧ w'.cell? ⟨ad361.block, ad361.off + 16 + 13, none⟩ = some (.int .i64 ((rd_T28 t338 1).f9)) ∧ w'.cell? ⟨ad361.block, ad361.off + 16 + 14, none⟩ = some (.bool true) ∧ w'.cell? ⟨ad361.block, ad361.off + 16 + 15, none⟩ = some (.string ((rd_T28 t338 1).f11)) ∧ w'.cell? ⟨ad361.block, ad361.off + 16, none⟩ = some (.int .i64 ((rd_T28 t338 1).f0)) ∧ w'.cell? ⟨ad361.block, ad361.off + 16 + 1, none⟩ = some (.int .i64 ((rd_T28 t338 1).f1)) ∧ w'.cell? ⟨ad361.block, ad361.off + 16 + 2, none⟩ = some (.int .i64 ((rd_T28 t338 1).f2)) ∧ w'.cell? ⟨ad361.block, ad361.off + 16 + 3, none⟩ = some (.int .i64 ((rd_T28 t338 1).f3)) ∧ w'.cell? ⟨ad361.block, ad361.off + 16 + 4, none⟩ = some (.bool ((rd_T28 t338 1).f4.f0)) ∧ w'.cell? ⟨ad361.block, ad361.off + 16 + 5, none⟩ = some (.int .u64 ((rd_T28 t338 1).f4.f1)) ∧ w'.cell? ⟨ad361.block, ad361.off + 16 + 6, none⟩ = some (.int .u64 ((rd_T28 t338 1).f4.f2)) ∧ w'.cell? ⟨ad361.block, ad361.off + 16 + 7, none⟩ = some (.bool ((rd_T28 t338 1).f5.f0)) ∧ w'.cell? ⟨ad361.block, ad361.off + 16 + 8, none⟩ = some (.int .u64 ((rd_T28 t338 1).f5.f1)) ∧ w'.cell? ⟨ad361.block, ad361.off + 16 + 9, none⟩ = some (.int .u64 ((rd_T28 t338 1).f5.f2)) ∧ w'.cell? ⟨ad361.block, ad361.off + 16 + 10, none⟩ = some (.slice A363_10 ((rd_T28 t338 1).f6).length c363_10) ∧ w'.cell? ⟨ad361.block, ad361.off + 16 + 11, none⟩ = some (.bool ((rd_T28 t338 1).f7)) ∧ w'.cell? ⟨ad361.block, ad361.off + 16 + 12, none⟩ = some (.int .i64 ((rd_T28 t338 1).f8)) ∧ w'.cell? ⟨ad361.block, ad361.off + 16 + 13, none⟩ = some (.int .i64 ((rd_T28 t338 1).f9)) ∧ w'.cell? ⟨ad361.block, ad361.off + 16 + 14, none⟩ = some (.bool (true)) ∧ w'.cell? ⟨ad361.block, ad361.off + 16 + 15, none⟩ = some (.string ((rd_T28 t338 1).f11))) (ds := []) #[O, O, O, O, O, O, O, O, O, O, O, O, O, O, O, O, O, O, O, O, O, O, O, O, O, O, O, O, O, O, O, O, O, O, O, O, O, O, O, O, O, O, O, O, O, O, O, O, O, O] (by kernel_rfl) rfl rfl ⟨kC BK337.out 0, kC BK337.out 1, kC BK337.out 2, kC BK337.out 3, kC BK337.out 4, kC BK337.out 5, kC BK337.out 6, kC BK337.out 7, kC BK337.out 8, kC BK337.out 9, kC BK337.out 10, kC BK337.out 11, kC BK337.out 12, kC BK337.out 13, kC BK337.out 14, kC BK337.out 15, hx361_0, hx361_1, hx361_2, hx361_3, hx361_4, hx361_5, hx361_6, hx361_7, hx361_8, hx361_9, hx361_10, hx361_11, hx361_12, hx361_13, hx361_14, hx361_15, hx362_0, hx362_1, hx362_2, hx362_3, hx362_4, hx362_5, hx362_6, hx362_7, hx362_8, hx362_9, hx362_10, hx362_11, hx362_12, hx362_13, hx362_14, hx362_15, hx363_0, hx363_1, hx363_2, hx363_3, hx363_4, hx363_5, hx363_6, hx363_7, hx363_8, hx363_9, hx363_10, hx363_11, hx363_12, hx363_13, hx363_14, hx363_15, hx364_0, hx364_1, hx364_2, hx364_3, hx364_4, hx364_5, hx364_6, hx364_7, hx364_8, hx364_9, hx364_10, hx364_11, hx364_12, hx364_13, hx364_14, hx364_15⟩ (fun hHeld => ?_); refine with_tabW intrusionlaw12_lives.tab6 intrusionlaw12_lives.bits6 (fun HT_ HW_ => ?_)
            generalize w40.drew = w42 at HO330 HO340 BK337 HB HL361_10 HL362_10 HL363_10 HL364_10 HR361_10 HR362_10 HR363_10 HR364_10 hx361_0 hx361_1 hx361_10 hx361_11 hx361_12 hx361_13 hx361_14 hx361_15 hx361_2 hx361_3 hx361_4 hx361_5 hx361_6 hx361_7 hx361_8 hx361_9 hx362_0 hx362_1 hx362_10 hx362_11 hx362_12 hx362_13 hx362_14 hx362_15 hx362_2 hx362_3 hx362_4 hx362_5 hx362_6 hx362_7 hx362_8 hx362_9 hx363_0 hx363_1 hx363_10 hx363_11 hx363_12 hx363_13 hx363_14 hx363_15 hx363_2 hx363_3 hx363_4 hx363_5 hx363_6 hx363_7 hx363_8 hx363_9 hx364_0 hx364_1 hx364_10 hx364_11 hx364_12 hx364_13 hx364_14 hx364_15 hx364_2 hx364_3 hx364_4 hx364_5 hx364_6 hx364_7 hx364_8 hx364_9 hHeld ⊢
            refine take_ (i := 0) (N := some 47) (v := ?_) (a' := ?_) #[I, O, O, O, O, O, O, O, O, O, O, O, O, O, O, O, O, O, O, O, O, O, O, O, O, O, O, O, O, O, O, O, O, O, O, O, O, O, O, O, O, O, O, O, O, O, O, O, O, O] rfl rfl (take_ofW HT_.out HW_.out (by kernel_rfl)) (fun _ _ _ h => h) (Or.inl ⟨by rfl, ?_⟩) hHeld ?_ ?_
            rotate_left
            ·rintro w' ⟨s0, s1, s2, s3, s4, s5, s6, s7, s8, s9, s10, s11, s12, s13, s14, s15, s16, s17, s18, s19, s20, s21, s22, s23, s24, s25, s26, s27, s28, s29, s30, s31, s32, s33, s34, s35, s36, s37, s38, s39, s40, s41, s42, s43, s44, s45, s46, s47, s48, s49, s50, s51, s52, s53, s54, s55, s56, s57, s58, s59, s60, s61, s62, s63, s64, s65, s66, s67, s68, s69, s70, s71, s72, s73, s74, s75, s76, s77, s78, s79⟩
             go_simp
             first | with_reducible rfl | rfl
            rotate_left
            ·simp only [Act.put, sA, sZ, sS, i64_w, i32_w]
             rfl
            refine one_ (i := 1) (N := some 48) #[I, I, O, O, O, O, O, O, O, O, O, O, O, O, O, O, O, O, O, O, O, O, O, O, O, O, O, O, O, O, O, O, O, O, O, O, O, O, O, O, O, O, O, O, O, O, O, O, O, O] rfl rfl (one_of HT_.out (by kernel_rfl)) (by decide) (fun K hK => ?_)
            refine goes_ Try.func24 (by kernel_rfl) rfl #[] (by rfl) rfl rfl kA ?_
            with_reducible refine (intrusionlaw12_packet.calls  t342 t343 t344 t345 t346 t347 t348 t349 t350 t351 t352 t355 t356 t357 t358 t359 _ A21.out).mono ?_
            rintro e w43 ⟨v353, rfl, ho0, hb⟩
            replace HL361_10 := As (Kd.R_below HL361_10.out hb)
            replace HR361_10 := As (Kd.C_below HR361_10.out hb)
            replace HL362_10 := As (Kd.R_below HL362_10.out hb)
            replace HR362_10 := As (Kd.C_below HR362_10.out hb)
            replace HL363_10 := As (Kd.R_below HL363_10.out hb)
            replace HR363_10 := As (Kd.C_below HR363_10.out hb)
            replace HL364_10 := As (Kd.R_below HL364_10.out hb)
            replace HR364_10 := As (Kd.C_below HR364_10.out hb)
            have ⟨_, _, _, _, _, _, _, _, _, _, _, _, _, _, _, _, HS16_, HS17_, HS18_, HS19_, HS20_, HS21_, HS22_, HS23_, HS24_, HS25_, HS26_, HS27_, HS28_, HS29_, HS30_, HS31_, HS32_, HS33_, HS34_, HS35_, HS36_, HS37_, HS38_, HS39_, HS40_, HS41_, HS42_, HS43_, HS44_, HS45_, HS46_, HS47_, HS48_, HS49_, HS50_, HS51_, HS52_, HS53_, HS54_, HS55_, HS56_, HS57_, HS58_, HS59_, HS60_, HS61_, HS62_, HS63_, HS64_, HS65_, HS66_, HS67_, HS68_, HS69_, HS70_, HS71_, HS72_, HS73_, HS74_, HS75_, HS76_, HS77_, HS78_, HS79_⟩ := hHeld
            replace HS16_ := hcell hb HS16_
            replace HS17_ := hcell hb HS17_
            replace HS18_ := hcell hb HS18_
            replace HS19_ := hcell hb HS19_
            replace HS20_ := hcell hb HS20_
            replace HS21_ := hcell hb HS21_
            replace HS22_ := hcell hb HS22_
            replace HS23_ := hcell hb HS23_
            replace HS24_ := hcell hb HS24_
            replace HS25_ := hcell hb HS25_
            replace HS26_ := hcell hb HS26_
            replace HS27_ := hcell hb HS27_
            replace HS28_ := hcell hb HS28_
            replace HS29_ := hcell hb HS29_
            replace HS30_ := hcell hb HS30_
            replace HS31_ := hcell hb HS31_
            replace HS32_ := hcell hb HS32_
            replace HS33_ := hcell hb HS33_
            replace HS34_ := hcell hb HS34_
            replace HS35_ := hcell hb HS35_
            replace HS36_ := hcell hb HS36_
            replace HS37_ := hcell hb HS37_
            replace HS38_ := hcell hb HS38_
            replace HS39_ := hcell hb HS39_
            replace HS40_ := hcell hb HS40_
            replace HS41_ := hcell hb HS41_
            replace HS42_ := hcell hb HS42_
            replace HS43_ := hcell hb HS43_
            replace HS44_ := hcell hb HS44_
            replace HS45_ := hcell hb HS45_
            replace HS46_ := hcell hb HS46_
            replace HS47_ := hcell hb HS47_
            replace HS48_ := hcell hb HS48_
            replace HS49_ := hcell hb HS49_
            replace HS50_ := hcell hb HS50_
            replace HS51_ := hcell hb HS51_
            replace HS52_ := hcell hb HS52_
            replace HS53_ := hcell hb HS53_
            replace HS54_ := hcell hb HS54_
            replace HS55_ := hcell hb HS55_
            replace HS56_ := hcell hb HS56_
            replace HS57_ := hcell hb HS57_
            replace HS58_ := hcell hb HS58_
            replace HS59_ := hcell hb HS59_
            replace HS60_ := hcell hb HS60_
            replace HS61_ := hcell hb HS61_
            replace HS62_ := hcell hb HS62_
            replace HS63_ := hcell hb HS63_
            replace HS64_ := hcell hb HS64_
            replace HS65_ := hcell hb HS65_
            replace HS66_ := hcell hb HS66_
            replace HS67_ := hcell hb HS67_
            replace HS68_ := hcell hb HS68_
            replace HS69_ := hcell hb HS69_
            replace HS70_ := hcell hb HS70_
            replace HS71_ := hcell hb HS71_
            replace HS72_ := hcell hb HS72_
            replace HS73_ := hcell hb HS73_
            replace HS74_ := hcell hb HS74_
            replace HS75_ := hcell hb HS75_
            replace HS76_ := hcell hb HS76_
            replace HS77_ := hcell hb HS77_
            replace HS78_ := hcell hb HS78_
            replace HS79_ := hcell hb HS79_
            refine ⟨_, rfl, ?_⟩
            replace HO340 := As (Kd.S_elder' (by (with_reducible repeat (first | apply Kd.S_alloc | apply Kd.S_drewN | apply Kd.S_drew)); exact HO340.out) (Kd.R_base ho0) hb)
            have HO354 := As (Kd.R_lower (Kd.R_new' ho0 (Kd.R_lt (kR HO330.out))) (below_size (kB1 HB.out GE337.out)))
            replace HO330 := As (Kd.R_elder' (kR HO330.out) (Kd.R_base ho0) hb)
            replace BK337 := As (blk_below (kb BK337.out) hb)
            replace HB := As (below_step (kB1 HB.out GE337.out) hb)
            (try clear hb)
            (try clear hb2)
            (try clear hk)
            (try clear hi)
            (try clear ho0)
            obtain ⟨Ao44, co44, eo44⟩ := Kd.R_slice HO354.out
            (first | subst eo44 | (injection eo44 with f1_ f2_ f3_; have f4_ := f1_.symm; have f5_ := f3_.symm; clear f1_ f2_ f3_; subst f4_; subst f5_))
            refine hK.out _ _ ⟨kC BK337.out 0, kC BK337.out 1, kC BK337.out 2, kC BK337.out 3, kC BK337.out 4, kC BK337.out 5, kC BK337.out 6, kC BK337.out 7, kC BK337.out 8, kC BK337.out 9, kC BK337.out 10, kC BK337.out 11, kC BK337.out 12, kC BK337.out 13, kC BK337.out 14, kC BK337.out 15, HS16_, HS17_, HS18_, HS19_, HS20_, HS21_, HS22_, HS23_, HS24_, HS25_, HS26_, HS27_, HS28_, HS29_, HS30_, HS31_, HS32_, HS33_, HS34_, HS35_, HS36_, HS37_, HS38_, HS39_, HS40_, HS41_, HS42_, HS43_, HS44_, HS45_, HS46_, HS47_, HS48_, HS49_, HS50_, HS51_, HS52_, HS53_, HS54_, HS55_, HS56_, HS57_, HS58_, HS59_, HS60_, HS61_, HS62_, HS63_, HS64_, HS65_, HS66_, HS67_, HS68_, HS69_, HS70_, HS71_, HS72_, HS73_, HS74_, HS75_, HS76_, HS77_, HS78_, HS79_⟩ (fun hHeld => ?_)
            clear hK K
            refine norm_ (a' := ?_) ?_ ?_
            rotate_left
            ·show Act.put _ (some 48) _ = _
             simp only [Act.put, sA, sZ, sS, i64_w, i32_w]
             rfl
            refine one_ (i := 2) (N := some 49) #[I, I, I, O, O, O, O, O, O, O, O, O, O, O, O, O, O, O, O, O, O, O, O, O, O, O, O, O, O, O, O, O, O, O, O, O, O, O, O, O, O, O, O, O, O, O, O, O, O, O] rfl rfl (one_of HT_.out (by kernel_rfl)) (by decide) (fun K hK => ?_)
            refine goes_ Try.func13 (by kernel_rfl) rfl #[.agg #[.int .i64 t318, .int .i64 t319, .int .i64 t320, .int .i64 t321, .bool t322, .int .u64 t323, .int .u64 t324, .bool t325, .int .u64 t326, .int .u64 t327, .slice Ao39 t328.length co39, .bool t331, .int .i64 t332, .int .i64 t333, .bool t334, .string t335], .agg #[.int .i64 t342, .int .i64 t343, .int .i64 t344, .int .i64 t345, .bool t346, .int .u64 t347, .int .u64 t348, .bool t349, .int .u64 t350, .int .u64 t351, .slice Ao44 t352.length co44, .bool t355, .int .i64 t356, .int .i64 t357, .bool t358, .string t359]] (by rfl) rfl rfl kA ?_
            with_reducible refine (intrusionref12_Same.calls kj2 t318 t319 t320 t321 t322 t323 t324 t325 t326 t327 _ _ t328 t331 t332 t333 t334 t335 t342 t343 t344 t345 t346 t347 t348 t349 t350 t351 _ _ t352 t355 t356 t357 t358 t359 true _ ?side1 ?side2 ?side3 ?side4 A22.out).mono ?_
            (case side1 => repeat (first | exact (Kd.R_reads' HO330.out).2.2 | (with_reducible refine Kd.C_alloc ?_ _) | (with_reducible refine Kd.C_drewN ?_ _) | (with_reducible refine Kd.C_drew ?_)))
            (case side2 => exact (Kd.R_reads' HO330.out).2.1)
            (case side3 => repeat (first | exact (Kd.R_reads' HO354.out).2.2 | (with_reducible refine Kd.C_alloc ?_ _) | (with_reducible refine Kd.C_drewN ?_ _) | (with_reducible refine Kd.C_drew ?_)))
            (case side4 => exact (Kd.R_reads' HO354.out).2.1)
            rintro e w45 ⟨rfl, hb⟩
            replace HL361_10 := As (Kd.R_below HL361_10.out hb)
            replace HR361_10 := As (Kd.C_below HR361_10.out hb)
            replace HL362_10 := As (Kd.R_below HL362_10.out hb)
            replace HR362_10 := As (Kd.C_below HR362_10.out hb)
            replace HL363_10 := As (Kd.R_below HL363_10.out hb)
            replace HR363_10 := As (Kd.C_below HR363_10.out hb)
            replace HL364_10 := As (Kd.R_below HL364_10.out hb)
            replace HR364_10 := As (Kd.C_below HR364_10.out hb)
            have ⟨_, _, _, _, _, _, _, _, _, _, _, _, _, _, _, _, HS16_, HS17_, HS18_, HS19_, HS20_, HS21_, HS22_, HS23_, HS24_, HS25_, HS26_, HS27_, HS28_, HS29_, HS30_, HS31_, HS32_, HS33_, HS34_, HS35_, HS36_, HS37_, HS38_, HS39_, HS40_, HS41_, HS42_, HS43_, HS44_, HS45_, HS46_, HS47_, HS48_, HS49_, HS50_, HS51_, HS52_, HS53_, HS54_, HS55_, HS56_, HS57_, HS58_, HS59_, HS60_, HS61_, HS62_, HS63_, HS64_, HS65_, HS66_, HS67_, HS68_, HS69_, HS70_, HS71_, HS72_, HS73_, HS74_, HS75_, HS76_, HS77_, HS78_, HS79_⟩ := hHeld
            replace HS16_ := hcell hb HS16_
            replace HS17_ := hcell hb HS17_
            replace HS18_ := hcell hb HS18_
            replace HS19_ := hcell hb HS19_
            replace HS20_ := hcell hb HS20_
            replace HS21_ := hcell hb HS21_
            replace HS22_ := hcell hb HS22_
            replace HS23_ := hcell hb HS23_
            replace HS24_ := hcell hb HS24_
            replace HS25_ := hcell hb HS25_
            replace HS26_ := hcell hb HS26_
            replace HS27_ := hcell hb HS27_
            replace HS28_ := hcell hb HS28_
            replace HS29_ := hcell hb HS29_
            replace HS30_ := hcell hb HS30_
            replace HS31_ := hcell hb HS31_
            replace HS32_ := hcell hb HS32_
            replace HS33_ := hcell hb HS33_
            replace HS34_ := hcell hb HS34_
            replace HS35_ := hcell hb HS35_
            replace HS36_ := hcell hb HS36_
            replace HS37_ := hcell hb HS37_
            replace HS38_ := hcell hb HS38_
            replace HS39_ := hcell hb HS39_
            replace HS40_ := hcell hb HS40_
            replace HS41_ := hcell hb HS41_
            replace HS42_ := hcell hb HS42_
            replace HS43_ := hcell hb HS43_
            replace HS44_ := hcell hb HS44_
            replace HS45_ := hcell hb HS45_
            replace HS46_ := hcell hb HS46_
            replace HS47_ := hcell hb HS47_
            replace HS48_ := hcell hb HS48_
            replace HS49_ := hcell hb HS49_
            replace HS50_ := hcell hb HS50_
            replace HS51_ := hcell hb HS51_
            replace HS52_ := hcell hb HS52_
            replace HS53_ := hcell hb HS53_
            replace HS54_ := hcell hb HS54_
            replace HS55_ := hcell hb HS55_
            replace HS56_ := hcell hb HS56_
            replace HS57_ := hcell hb HS57_
            replace HS58_ := hcell hb HS58_
            replace HS59_ := hcell hb HS59_
            replace HS60_ := hcell hb HS60_
            replace HS61_ := hcell hb HS61_
            replace HS62_ := hcell hb HS62_
            replace HS63_ := hcell hb HS63_
            replace HS64_ := hcell hb HS64_
            replace HS65_ := hcell hb HS65_
            replace HS66_ := hcell hb HS66_
            replace HS67_ := hcell hb HS67_
            replace HS68_ := hcell hb HS68_
            replace HS69_ := hcell hb HS69_
            replace HS70_ := hcell hb HS70_
            replace HS71_ := hcell hb HS71_
            replace HS72_ := hcell hb HS72_
            replace HS73_ := hcell hb HS73_
            replace HS74_ := hcell hb HS74_
            replace HS75_ := hcell hb HS75_
            replace HS76_ := hcell hb HS76_
            replace HS77_ := hcell hb HS77_
            replace HS78_ := hcell hb HS78_
            replace HS79_ := hcell hb HS79_
            refine ⟨_, rfl, ?_⟩
            replace HO330 := As (Kd.R_below (kR HO330.out) hb)
            replace HO340 := As (Kd.S_below (by (with_reducible repeat (first | apply Kd.S_alloc | apply Kd.S_drewN | apply Kd.S_drew)); exact HO340.out) hb)
            replace HO354 := As (Kd.R_below (kR HO354.out) hb)
            replace BK337 := As (blk_below (kb BK337.out) hb)
            replace HB := As (below_step (kB1 HB.out GE337.out) hb)
            (try clear hb)
            (try clear hb2)
            (try clear hk)
            (try clear hi)
            refine hK.out _ _ ⟨kC BK337.out 0, kC BK337.out 1, kC BK337.out 2, kC BK337.out 3, kC BK337.out 4, kC BK337.out 5, kC BK337.out 6, kC BK337.out 7, kC BK337.out 8, kC BK337.out 9, kC BK337.out 10, kC BK337.out 11, kC BK337.out 12, kC BK337.out 13, kC BK337.out 14, kC BK337.out 15, HS16_, HS17_, HS18_, HS19_, HS20_, HS21_, HS22_, HS23_, HS24_, HS25_, HS26_, HS27_, HS28_, HS29_, HS30_, HS31_, HS32_, HS33_, HS34_, HS35_, HS36_, HS37_, HS38_, HS39_, HS40_, HS41_, HS42_, HS43_, HS44_, HS45_, HS46_, HS47_, HS48_, HS49_, HS50_, HS51_, HS52_, HS53_, HS54_, HS55_, HS56_, HS57_, HS58_, HS59_, HS60_, HS61_, HS62_, HS63_, HS64_, HS65_, HS66_, HS67_, HS68_, HS69_, HS70_, HS71_, HS72_, HS73_, HS74_, HS75_, HS76_, HS77_, HS78_, HS79_⟩ (fun hHeld => ?_)
            clear hK K
            refine norm_ (a' := ?_) ?_ ?_
            rotate_left
            ·show Act.put _ (some 49) _ = _
             simp only [Act.put, sA, sZ, sS, i64_w, i32_w]
             rfl
            refine kP 3 50 #[I, I, I, I, O, O, O, O, O, O, O, O, O, O, O, O, O, O, O, O, O, O, O, O, O, O, O, O, O, O, O, O, O, O, O, O, O, O, O, O, O, O, O, O, O, O, O, O, O, O] ?_ (any_of HT_.out (by kernel_rfl))
            refine kP 4 51 #[I, I, I, I, I, O, O, O, O, O, O, O, O, O, O, O, O, O, O, O, O, O, O, O, O, O, O, O, O, O, O, O, O, O, O, O, O, O, O, O, O, O, O, O, O, O, O, O, O, O] ?_ (any_of HT_.out (by kernel_rfl))
            refine kP 5 52 #[I, I, I, I, I, I, O, O, O, O, O, O, O, O, O, O, O, O, O, O, O, O, O, O, O, O, O, O, O, O, O, O, O, O, O, O, O, O, O, O, O, O, O, O, O, O, O, O, O, O] ?_ (any_of HT_.out (by kernel_rfl))
            refine kP 6 53 #[I, I, I, I, I, I, I, O, O, O, O, O, O, O, O, O, O, O, O, O, O, O, O, O, O, O, O, O, O, O, O, O, O, O, O, O, O, O, O, O, O, O, O, O, O, O, O, O, O, O] ?_ (any_of HT_.out (by kernel_rfl))
            refine kP 7 54 #[I, I, I, I, I, I, I, I, O, O, O, O, O, O, O, O, O, O, O, O, O, O, O, O, O, O, O, O, O, O, O, O, O, O, O, O, O, O, O, O, O, O, O, O, O, O, O, O, O, O] ?_ (any_of HT_.out (by kernel_rfl))
            refine kP 8 55 #[I, I, I, I, I, I, I, I, I, O, O, O, O, O, O, O, O, O, O, O, O, O, O, O, O, O, O, O, O, O, O, O, O, O, O, O, O, O, O, O, O, O, O, O, O, O, O, O, O, O] ?_ (any_of HT_.out (by kernel_rfl))
            refine kP 9 56 #[I, I, I, I, I, I, I, I, I, I, O, O, O, O, O, O, O, O, O, O, O, O, O, O, O, O, O, O, O, O, O, O, O, O, O, O, O, O, O, O, O, O, O, O, O, O, O, O, O, O] ?_ (any_of HT_.out (by kernel_rfl))
            refine kP 10 57 #[I, I, I, I, I, I, I, I, I, I, I, O, O, O, O, O, O, O, O, O, O, O, O, O, O, O, O, O, O, O, O, O, O, O, O, O, O, O, O, O, O, O, O, O, O, O, O, O, O, O] ?_ (any_of HT_.out (by kernel_rfl))
            refine kP 11 58 #[I, I, I, I, I, I, I, I, I, I, I, I, O, O, O, O, O, O, O, O, O, O, O, O, O, O, O, O, O, O, O, O, O, O, O, O, O, O, O, O, O, O, O, O, O, O, O, O, O, O] ?_ (any_of HT_.out (by kernel_rfl))
            refine kP 12 59 #[I, I, I, I, I, I, I, I, I, I, I, I, I, O, O, O, O, O, O, O, O, O, O, O, O, O, O, O, O, O, O, O, O, O, O, O, O, O, O, O, O, O, O, O, O, O, O, O, O, O] ?_ (any_of HT_.out (by kernel_rfl))
            refine kP 13 60 #[I, I, I, I, I, I, I, I, I, I, I, I, I, I, O, O, O, O, O, O, O, O, O, O, O, O, O, O, O, O, O, O, O, O, O, O, O, O, O, O, O, O, O, O, O, O, O, O, O, O] ?_ (any_of HT_.out (by kernel_rfl))
            refine kP 14 61 #[I, I, I, I, I, I, I, I, I, I, I, I, I, I, I, O, O, O, O, O, O, O, O, O, O, O, O, O, O, O, O, O, O, O, O, O, O, O, O, O, O, O, O, O, O, O, O, O, O, O] ?_ (any_of HT_.out (by kernel_rfl))
            refine kP 15 62 #[I, I, I, I, I, I, I, I, I, I, I, I, I, I, I, I, O, O, O, O, O, O, O, O, O, O, O, O, O, O, O, O, O, O, O, O, O, O, O, O, O, O, O, O, O, O, O, O, O, O] ?_ (any_of HT_.out (by kernel_rfl))
            refine kP 16 63 #[I, I, I, I, I, I, I, I, I, I, I, I, I, I, I, I, I, O, O, O, O, O, O, O, O, O, O, O, O, O, O, O, O, O, O, O, O, O, O, O, O, O, O, O, O, O, O, O, O, O] ?_ (any_of HT_.out (by kernel_rfl))
            refine kP 17 64 #[I, I, I, I, I, I, I, I, I, I, I, I, I, I, I, I, I, I, O, O, O, O, O, O, O, O, O, O, O, O, O, O, O, O, O, O, O, O, O, O, O, O, O, O, O, O, O, O, O, O] ?_ (any_of HT_.out (by kernel_rfl))
            refine kP 18 65 #[I, I, I, I, I, I, I, I, I, I, I, I, I, I, I, I, I, I, I, O, O, O, O, O, O, O, O, O, O, O, O, O, O, O, O, O, O, O, O, O, O, O, O, O, O, O, O, O, O, O] ?_ (any_of HT_.out (by kernel_rfl))
            refine kP 19 66 #[I, I, I, I, I, I, I, I, I, I, I, I, I, I, I, I, I, I, I, I, O, O, O, O, O, O, O, O, O, O, O, O, O, O, O, O, O, O, O, O, O, O, O, O, O, O, O, O, O, O] ?_ (any_of HT_.out (by kernel_rfl))
            refine take_ (i := 20) (N := some 67) (v := ?_) (a' := ?_) #[I, I, I, I, I, I, I, I, I, I, I, I, I, I, I, I, I, I, I, I, I, O, O, O, O, O, O, O, O, O, O, O, O, O, O, O, O, O, O, O, O, O, O, O, O, O, O, O, O, O] rfl rfl (take_ofW HT_.out HW_.out (by kernel_rfl)) (fun _ _ _ h => h) (Or.inl ⟨by rfl, ?_⟩) hHeld ?_ ?_
            rotate_left
            ·rintro w' ⟨s0, s1, s2, s3, s4, s5, s6, s7, s8, s9, s10, s11, s12, s13, s14, s15, s16, s17, s18, s19, s20, s21, s22, s23, s24, s25, s26, s27, s28, s29, s30, s31, s32, s33, s34, s35, s36, s37, s38, s39, s40, s41, s42, s43, s44, s45, s46, s47, s48, s49, s50, s51, s52, s53, s54, s55, s56, s57, s58, s59, s60, s61, s62, s63, s64, s65, s66, s67, s68, s69, s70, s71, s72, s73, s74, s75, s76, s77, s78, s79⟩
             go_simp
             first | with_reducible rfl | rfl
            rotate_left
            ·simp only [Act.put, sA, sZ, sS, i64_w, i32_w]
             rfl
            refine kP 21 68 #[I, I, I, I, I, I, I, I, I, I, I, I, I, I, I, I, I, I, I, I, I, I, O, O, O, O, O, O, O, O, O, O, O, O, O, O, O, O, O, O, O, O, O, O, O, O, O, O, O, O] ?_ (any_of HT_.out (by kernel_rfl))
            refine kP 22 69 #[I, I, I, I, I, I, I, I, I, I, I, I, I, I, I, I, I, I, I, I, I, I, I, O, O, O, O, O, O, O, O, O, O, O, O, O, O, O, O, O, O, O, O, O, O, O, O, O, O, O] ?_ (any_of HT_.out (by kernel_rfl))
            refine kP 23 70 #[I, I, I, I, I, I, I, I, I, I, I, I, I, I, I, I, I, I, I, I, I, I, I, I, O, O, O, O, O, O, O, O, O, O, O, O, O, O, O, O, O, O, O, O, O, O, O, O, O, O] ?_ (any_of HT_.out (by kernel_rfl))
            refine kP 24 71 #[I, I, I, I, I, I, I, I, I, I, I, I, I, I, I, I, I, I, I, I, I, I, I, I, I, O, O, O, O, O, O, O, O, O, O, O, O, O, O, O, O, O, O, O, O, O, O, O, O, O] ?_ (any_of HT_.out (by kernel_rfl))
            refine kP 25 72 #[I, I, I, I, I, I, I, I, I, I, I, I, I, I, I, I, I, I, I, I, I, I, I, I, I, I, O, O, O, O, O, O, O, O, O, O, O, O, O, O, O, O, O, O, O, O, O, O, O, O] ?_ (any_of HT_.out (by kernel_rfl))
            refine kP 26 73 #[I, I, I, I, I, I, I, I, I, I, I, I, I, I, I, I, I, I, I, I, I, I, I, I, I, I, I, O, O, O, O, O, O, O, O, O, O, O, O, O, O, O, O, O, O, O, O, O, O, O] ?_ (any_of HT_.out (by kernel_rfl))
            refine take_ (i := 27) (N := some 74) (v := ?_) (a' := ?_) #[I, I, I, I, I, I, I, I, I, I, I, I, I, I, I, I, I, I, I, I, I, I, I, I, I, I, I, I, O, O, O, O, O, O, O, O, O, O, O, O, O, O, O, O, O, O, O, O, O, O] rfl rfl (take_ofW HT_.out HW_.out (by kernel_rfl)) (fun _ _ _ h => h) (Or.inl ⟨by rfl, ?_⟩) hHeld ?_ ?_
            rotate_left
            ·rintro w' ⟨s0, s1, s2, s3, s4, s5, s6, s7, s8, s9, s10, s11, s12, s13, s14, s15, s16, s17, s18, s19, s20, s21, s22, s23, s24, s25, s26, s27, s28, s29, s30, s31, s32, s33, s34, s35, s36, s37, s38, s39, s40, s41, s42, s43, s44, s45, s46, s47, s48, s49, s50, s51, s52, s53, s54, s55, s56, s57, s58, s59, s60, s61, s62, s63, s64, s65, s66, s67, s68, s69, s70, s71, s72, s73, s74, s75, s76, s77, s78, s79⟩
             go_simp
             first | with_reducible rfl | rfl
            rotate_left
            ·simp only [Act.put, sA, sZ, sS, i64_w, i32_w]
             rfl
            refine kP 28 75 #[I, I, I, I, I, I, I, I, I, I, I, I, I, I, I, I, I, I, I, I, I, I, I, I, I, I, I, I, I, O, O, O, O, O, O, O, O, O, O, O, O, O, O, O, O, O, O, O, O, O] ?_ (any_of HT_.out (by kernel_rfl))
            refine kP 29 76 #[I, I, I, I, I, I, I, I, I, I, I, I, I, I, I, I, I, I, I, I, I, I, I, I, I, I, I, I, I, I, O, O, O, O, O, O, O, O, O, O, O, O, O, O, O, O, O, O, O, O] ?_ (any_of HT_.out (by kernel_rfl))
            refine kP 30 77 #[I, I, I, I, I, I, I, I, I, I, I, I, I, I, I, I, I, I, I, I, I, I, I, I, I, I, I, I, I, I, I, O, O, O, O, O, O, O, O, O, O, O, O, O, O, O, O, O, O, O] ?_ (any_of HT_.out (by kernel_rfl))
            refine kP 31 78 #[I, I, I, I, I, I, I, I, I, I, I, I, I, I, I, I, I, I, I, I, I, I, I, I, I, I, I, I, I, I, I, I, O, O, O, O, O, O, O, O, O, O, O, O, O, O, O, O, O, O] ?_ (any_of HT_.out (by kernel_rfl))
            refine kP 32 79 #[I, I, I, I, I, I, I, I, I, I, I, I, I, I, I, I, I, I, I, I, I, I, I, I, I, I, I, I, I, I, I, I, I, O, O, O, O, O, O, O, O, O, O, O, O, O, O, O, O, O] ?_ (any_of HT_.out (by kernel_rfl))
            refine kP 33 80 #[I, I, I, I, I, I, I, I, I, I, I, I, I, I, I, I, I, I, I, I, I, I, I, I, I, I, I, I, I, I, I, I, I, I, O, O, O, O, O, O, O, O, O, O, O, O, O, O, O, O] ?_ (any_of HT_.out (by kernel_rfl))
            refine take_ (i := 34) (N := some 81) (v := ?_) (a' := ?_) #[I, I, I, I, I, I, I, I, I, I, I, I, I, I, I, I, I, I, I, I, I, I, I, I, I, I, I, I, I, I, I, I, I, I, I, O, O, O, O, O, O, O, O, O, O, O, O, O, O, O] rfl rfl (take_ofW HT_.out HW_.out (by kernel_rfl)) (fun _ _ _ h => h) (Or.inl ⟨by rfl, ?_⟩) hHeld ?_ ?_
            rotate_left
            ·rintro w' ⟨s0, s1, s2, s3, s4, s5, s6, s7, s8, s9, s10, s11, s12, s13, s14, s15, s16, s17, s18, s19, s20, s21, s22, s23, s24, s25, s26, s27, s28, s29, s30, s31, s32, s33, s34, s35, s36, s37, s38, s39, s40, s41, s42, s43, s44, s45, s46, s47, s48, s49, s50, s51, s52, s53, s54, s55, s56, s57, s58, s59, s60, s61, s62, s63, s64, s65, s66, s67, s68, s69, s70, s71, s72, s73, s74, s75, s76, s77, s78, s79⟩
             go_simp
             first | with_reducible rfl | rfl
            rotate_left
            ·simp only [Act.put, sA, sZ, sS, i64_w, i32_w]
             rfl
            refine kP 35 82 #[I, I, I, I, I, I, I, I, I, I, I, I, I, I, I, I, I, I, I, I, I, I, I, I, I, I, I, I, I, I, I, I, I, I, I, I, O, O, O, O, O, O, O, O, O, O, O, O, O, O] ?_ (any_of HT_.out (by kernel_rfl))
            refine kP 36 83 #[I, I, I, I, I, I, I, I, I, I, I, I, I, I, I, I, I, I, I, I, I, I, I, I, I, I, I, I, I, I, I, I, I, I, I, I, I, O, O, O, O, O, O, O, O, O, O, O, O, O] ?_ (any_of HT_.out (by kernel_rfl))
            refine kP 37 84 #[I, I, I, I, I, I, I, I, I, I, I, I, I, I, I, I, I, I, I, I, I, I, I, I, I, I, I, I, I, I, I, I, I, I, I, I, I, I, O, O, O, O, O, O, O, O, O, O, O, O] ?_ (any_of HT_.out (by kernel_rfl))
            refine kP 38 85 #[I, I, I, I, I, I, I, I, I, I, I, I, I, I, I, I, I, I, I, I, I, I, I, I, I, I, I, I, I, I, I, I, I, I, I, I, I, I, I, O, O, O, O, O, O, O, O, O, O, O] ?_ (any_of HT_.out (by kernel_rfl))
            refine take_ (i := 39) (N := some 86) (v := ?_) (a' := ?_) #[I, I, I, I, I, I, I, I, I, I, I, I, I, I, I, I, I, I, I, I, I, I, I, I, I, I, I, I, I, I, I, I, I, I, I, I, I, I, I, I, O, O, O, O, O, O, O, O, O, O] rfl rfl (take_ofW HT_.out HW_.out (by kernel_rfl)) (fun _ _ _ h => h) (Or.inl ⟨by rfl, ?_⟩) hHeld ?_ ?_
            rotate_left
            ·rintro w' ⟨s0, s1, s2, s3, s4, s5, s6, s7, s8, s9, s10, s11, s12, s13, s14, s15, s16, s17, s18, s19, s20, s21, s22, s23, s24, s25, s26, s27, s28, s29, s30, s31, s32, s33, s34, s35, s36, s37, s38, s39, s40, s41, s42, s43, s44, s45, s46, s47, s48, s49, s50, s51, s52, s53, s54, s55, s56, s57, s58, s59, s60, s61, s62, s63, s64, s65, s66, s67, s68, s69, s70, s71, s72, s73, s74, s75, s76, s77, s78, s79⟩
             go_simp
             first | with_reducible rfl | rfl
            rotate_left
            ·simp only [Act.put, sA, sZ, sS, i64_w, i32_w]
             rfl
            refine one_ (i := 40) (N := some 87) #[I, I, I, I, I, I, I, I, I, I, I, I, I, I, I, I, I, I, I, I, I, I, I, I, I, I, I, I, I, I, I, I, I, I, I, I, I, I, I, I, I, O, O, O, O, O, O, O, O, O] rfl rfl (one_of HT_.out (by kernel_rfl)) (by decide) (fun K hK => ?_)
            refine goes_ Try.func20 (by kernel_rfl) rfl #[.agg #[.int .i64 ((rd_T28 t338 1).f0), .int .i64 ((rd_T28 t338 1).f1), .int .i64 ((rd_T28 t338 1).f2), .int .i64 ((rd_T28 t338 1).f3), .bool ((rd_T28 t338 1).f4.f0), .int .u64 ((rd_T28 t338 1).f4.f1), .int .u64 ((rd_T28 t338 1).f4.f2), .bool ((rd_T28 t338 1).f5.f0), .int .u64 ((rd_T28 t338 1).f5.f1), .int .u64 ((rd_T28 t338 1).f5.f2), .slice A363_10 ((rd_T28 t338 1).f6).length c363_10, .bool ((rd_T28 t338 1).f7), .int .i64 ((rd_T28 t338 1).f8), .int .i64 ((rd_T28 t338 1).f9), .bool true, .string ((rd_T28 t338 1).f11)]] (by rfl) rfl rfl kA ?_
            with_reducible refine (ipv6_Fragment.calls ((rd_T28 t338 1).f0) ((rd_T28 t338 1).f1) ((rd_T28 t338 1).f2) ((rd_T28 t338 1).f3) ((rd_T28 t338 1).f4.f0) ((rd_T28 t338 1).f4.f1) ((rd_T28 t338 1).f4.f2) ((rd_T28 t338 1).f5.f0) ((rd_T28 t338 1).f5.f1) ((rd_T28 t338 1).f5.f2) _ _ ((rd_T28 t338 1).f6) ((rd_T28 t338 1).f7) ((rd_T28 t338 1).f8) ((rd_T28 t338 1).f9) true ((rd_T28 t338 1).f11) t365 t366 t367 t368 t369 t370 t371 t372 t373 t374 t375 t376 _ ?side1 ?side2 A34.out).mono ?_
            (case side1 => repeat (first | exact (by repeat (first | (with_reducible exact HR364_10.out) | (with_reducible refine Kd.C_alloc ?_ _) | (with_reducible refine Kd.C_drewN ?_ _) | (with_reducible refine Kd.C_drew ?_) | exact HR364_10.out)) | (with_reducible refine Kd.C_alloc ?_ _) | (with_reducible refine Kd.C_drewN ?_ _) | (with_reducible refine Kd.C_drew ?_)))
            (case side2 => exact HC364_10.out)
            rintro e w46 ⟨rfl, hb⟩
            have ⟨_, _, _, _, _, _, _, _, _, _, _, _, _, _, _, _, HS16_, HS17_, HS18_, HS19_, HS20_, HS21_, HS22_, HS23_, HS24_, HS25_, HS26_, HS27_, HS28_, HS29_, HS30_, HS31_, HS32_, HS33_, HS34_, HS35_, HS36_, HS37_, HS38_, HS39_, HS40_, HS41_, HS42_, HS43_, HS44_, HS45_, HS46_, HS47_, HS48_, HS49_, HS50_, HS51_, HS52_, HS53_, HS54_, HS55_, HS56_, HS57_, HS58_, HS59_, HS60_, HS61_, HS62_, HS63_, HS64_, HS65_, HS66_, HS67_, HS68_, HS69_, HS70_, HS71_, HS72_, HS73_, HS74_, HS75_, HS76_, HS77_, HS78_, HS79_⟩ := hHeld
            replace HS16_ := hcell hb HS16_
            replace HS17_ := hcell hb HS17_
            replace HS18_ := hcell hb HS18_
            replace HS19_ := hcell hb HS19_
            replace HS20_ := hcell hb HS20_
            replace HS21_ := hcell hb HS21_
            replace HS22_ := hcell hb HS22_
            replace HS23_ := hcell hb HS23_
            replace HS24_ := hcell hb HS24_
            replace HS25_ := hcell hb HS25_
            replace HS26_ := hcell hb HS26_
            replace HS27_ := hcell hb HS27_
            replace HS28_ := hcell hb HS28_
            replace HS29_ := hcell hb HS29_
            replace HS30_ := hcell hb HS30_
            replace HS31_ := hcell hb HS31_
            replace HS32_ := hcell hb HS32_
            replace HS33_ := hcell hb HS33_
            replace HS34_ := hcell hb HS34_
            replace HS35_ := hcell hb HS35_
            replace HS36_ := hcell hb HS36_
            replace HS37_ := hcell hb HS37_
            replace HS38_ := hcell hb HS38_
            replace HS39_ := hcell hb HS39_
            replace HS40_ := hcell hb HS40_
            replace HS41_ := hcell hb HS41_
            replace HS42_ := hcell hb HS42_
            replace HS43_ := hcell hb HS43_
            replace HS44_ := hcell hb HS44_
            replace HS45_ := hcell hb HS45_
            replace HS46_ := hcell hb HS46_
            replace HS47_ := hcell hb HS47_
            replace HS48_ := hcell hb HS48_
            replace HS49_ := hcell hb HS49_
            replace HS50_ := hcell hb HS50_
            replace HS51_ := hcell hb HS51_
            replace HS52_ := hcell hb HS52_
            replace HS53_ := hcell hb HS53_
            replace HS54_ := hcell hb HS54_
            replace HS55_ := hcell hb HS55_
            replace HS56_ := hcell hb HS56_
            replace HS57_ := hcell hb HS57_
            replace HS58_ := hcell hb HS58_
            replace HS59_ := hcell hb HS59_
            replace HS60_ := hcell hb HS60_
            replace HS61_ := hcell hb HS61_
            replace HS62_ := hcell hb HS62_
            replace HS63_ := hcell hb HS63_
            replace HS64_ := hcell hb HS64_
            replace HS65_ := hcell hb HS65_
            replace HS66_ := hcell hb HS66_
            replace HS67_ := hcell hb HS67_
            replace HS68_ := hcell hb HS68_
            replace HS69_ := hcell hb HS69_
            replace HS70_ := hcell hb HS70_
            replace HS71_ := hcell hb HS71_
            replace HS72_ := hcell hb HS72_
            replace HS73_ := hcell hb HS73_
            replace HS74_ := hcell hb HS74_
            replace HS75_ := hcell hb HS75_
            replace HS76_ := hcell hb HS76_
            replace HS77_ := hcell hb HS77_
            replace HS78_ := hcell hb HS78_
            replace HS79_ := hcell hb HS79_
            refine ⟨_, rfl, ?_⟩
            replace HO330 := As (Kd.R_below (kR HO330.out) hb)
            replace HO340 := As (Kd.S_below (by (with_reducible repeat (first | apply Kd.S_alloc | apply Kd.S_drewN | apply Kd.S_drew)); exact HO340.out) hb)
            replace HO354 := As (Kd.R_below (kR HO354.out) hb)
            replace HL361_10 := As (Kd.R_below (kR HL361_10.out) hb)
            replace HL362_10 := As (Kd.R_below (kR HL362_10.out) hb)
            replace HL363_10 := As (Kd.R_below (kR HL363_10.out) hb)
            replace HL364_10 := As (Kd.R_below (kR HL364_10.out) hb)
            replace BK337 := As (blk_below (kb BK337.out) hb)
            replace HR361_10 := As (Kd.C_below (by repeat (first | (with_reducible exact HR361_10.out) | (with_reducible refine Kd.C_alloc ?_ _) | (with_reducible refine Kd.C_drewN ?_ _) | (with_reducible refine Kd.C_drew ?_) | exact HR361_10.out)) hb)
            replace HR362_10 := As (Kd.C_below (by repeat (first | (with_reducible exact HR362_10.out) | (with_reducible refine Kd.C_alloc ?_ _) | (with_reducible refine Kd.C_drewN ?_ _) | (with_reducible refine Kd.C_drew ?_) | exact HR362_10.out)) hb)
            replace HR363_10 := As (Kd.C_below (by repeat (first | (with_reducible exact HR363_10.out) | (with_reducible refine Kd.C_alloc ?_ _) | (with_reducible refine Kd.C_drewN ?_ _) | (with_reducible refine Kd.C_drew ?_) | exact HR363_10.out)) hb)
            replace HR364_10 := As (Kd.C_below (by repeat (first | (with_reducible exact HR364_10.out) | (with_reducible refine Kd.C_alloc ?_ _) | (with_reducible refine Kd.C_drewN ?_ _) | (with_reducible refine Kd.C_drew ?_) | exact HR364_10.out)) hb)
            replace HB := As (below_step (kB1 HB.out GE337.out) hb)
            (try clear hb)
            (try clear hb2)
            (try clear hk)
            (try clear hi)
            refine hK.out _ _ ⟨kC BK337.out 0, kC BK337.out 1, kC BK337.out 2, kC BK337.out 3, kC BK337.out 4, kC BK337.out 5, kC BK337.out 6, kC BK337.out 7, kC BK337.out 8, kC BK337.out 9, kC BK337.out 10, kC BK337.out 11, kC BK337.out 12, kC BK337.out 13, kC BK337.out 14, kC BK337.out 15, HS16_, HS17_, HS18_, HS19_, HS20_, HS21_, HS22_, HS23_, HS24_, HS25_, HS26_, HS27_, HS28_, HS29_, HS30_, HS31_, HS32_, HS33_, HS34_, HS35_, HS36_, HS37_, HS38_, HS39_, HS40_, HS41_, HS42_, HS43_, HS44_, HS45_, HS46_, HS47_, HS48_, HS49_, HS50_, HS51_, HS52_, HS53_, HS54_, HS55_, HS56_, HS57_, HS58_, HS59_, HS60_, HS61_, HS62_, HS63_, HS64_, HS65_, HS66_, HS67_, HS68_, HS69_, HS70_, HS71_, HS72_, HS73_, HS74_, HS75_, HS76_, HS77_, HS78_, HS79_⟩ (fun hHeld => ?_)
            clear hK K
            refine norm_ (a' := ?_) ?_ ?_
            rotate_left
            ·show Act.put _ (some 87) _ = _
             simp only [Act.put, sA, sZ, sS, i64_w, i32_w]
             rfl
            refine kP 41 88 #[I, I, I, I, I, I, I, I, I, I, I, I, I, I, I, I, I, I, I, I, I, I, I, I, I, I, I, I, I, I, I, I, I, I, I, I, I, I, I, I, I, I, O, O, O, O, O, O, O, O] ?_ (any_of HT_.out (by kernel_rfl))
            refine kP 42 89 #[I, I, I, I, I, I, I, I, I, I, I, I, I, I, I, I, I, I, I, I, I, I, I, I, I, I, I, I, I, I, I, I, I, I, I, I, I, I, I, I, I, I, I, O, O, O, O, O, O, O] ?_ (any_of HT_.out (by kernel_rfl))
            refine kP 43 90 #[I, I, I, I, I, I, I, I, I, I, I, I, I, I, I, I, I, I, I, I, I, I, I, I, I, I, I, I, I, I, I, I, I, I, I, I, I, I, I, I, I, I, I, I, O, O, O, O, O, O] ?_ (any_of HT_.out (by kernel_rfl))
            refine kP 44 91 #[I, I, I, I, I, I, I, I, I, I, I, I, I, I, I, I, I, I, I, I, I, I, I, I, I, I, I, I, I, I, I, I, I, I, I, I, I, I, I, I, I, I, I, I, I, O, O, O, O, O] ?_ (any_of HT_.out (by kernel_rfl))
            refine take_ (i := 45) (N := some 92) (v := ?_) (a' := ?_) #[I, I, I, I, I, I, I, I, I, I, I, I, I, I, I, I, I, I, I, I, I, I, I, I, I, I, I, I, I, I, I, I, I, I, I, I, I, I, I, I, I, I, I, I, I, I, O, O, O, O] rfl rfl (take_ofW HT_.out HW_.out (by kernel_rfl)) (fun _ _ _ h => h) (Or.inl ⟨by rfl, ?_⟩) hHeld ?_ ?_
            rotate_left
            ·rintro w' ⟨s0, s1, s2, s3, s4, s5, s6, s7, s8, s9, s10, s11, s12, s13, s14, s15, s16, s17, s18, s19, s20, s21, s22, s23, s24, s25, s26, s27, s28, s29, s30, s31, s32, s33, s34, s35, s36, s37, s38, s39, s40, s41, s42, s43, s44, s45, s46, s47, s48, s49, s50, s51, s52, s53, s54, s55, s56, s57, s58, s59, s60, s61, s62, s63, s64, s65, s66, s67, s68, s69, s70, s71, s72, s73, s74, s75, s76, s77, s78, s79⟩
             go_simp
             first | with_reducible rfl | rfl
            rotate_left
            ·simp only [Act.put, sA, sZ, sS, i64_w, i32_w]
             rfl
            refine one_ (i := 46) (N := some 93) #[I, I, I, I, I, I, I, I, I, I, I, I, I, I, I, I, I, I, I, I, I, I, I, I, I, I, I, I, I, I, I, I, I, I, I, I, I, I, I, I, I, I, I, I, I, I, I, O, O, O] rfl rfl (one_of HT_.out (by kernel_rfl)) (by decide) (fun K hK => ?_)
            refine goes_ Try.func22 (by kernel_rfl) rfl #[.agg #[.int .i64 t318, .int .i64 t319, .int .i64 t320, .int .i64 t321, .bool t322, .int .u64 t323, .int .u64 t324, .bool t325, .int .u64 t326, .int .u64 t327, .slice Ao39 t328.length co39, .bool t331, .int .i64 t332, .int .i64 t333, .bool t334, .string t335]] (by rfl) rfl rfl kA ?_
            with_reducible refine (ipv6_Routed.calls kj2 t318 t319 t320 t321 t322 t323 t324 t325 t326 t327 _ _ t328 t331 t332 t333 t334 t335 t377 _ ?side1 ?side2 A36.out).mono ?_
            (case side1 => repeat (first | exact (Kd.R_reads' HO330.out).2.2 | (with_reducible refine Kd.C_alloc ?_ _) | (with_reducible refine Kd.C_drewN ?_ _) | (with_reducible refine Kd.C_drew ?_)))
            (case side2 => exact (Kd.R_reads' HO330.out).2.1)
            rintro e w47 ⟨rfl, hb⟩
            have ⟨_, _, _, _, _, _, _, _, _, _, _, _, _, _, _, _, HS16_, HS17_, HS18_, HS19_, HS20_, HS21_, HS22_, HS23_, HS24_, HS25_, HS26_, HS27_, HS28_, HS29_, HS30_, HS31_, HS32_, HS33_, HS34_, HS35_, HS36_, HS37_, HS38_, HS39_, HS40_, HS41_, HS42_, HS43_, HS44_, HS45_, HS46_, HS47_, HS48_, HS49_, HS50_, HS51_, HS52_, HS53_, HS54_, HS55_, HS56_, HS57_, HS58_, HS59_, HS60_, HS61_, HS62_, HS63_, HS64_, HS65_, HS66_, HS67_, HS68_, HS69_, HS70_, HS71_, HS72_, HS73_, HS74_, HS75_, HS76_, HS77_, HS78_, HS79_⟩ := hHeld
            replace HS16_ := hcell hb HS16_
            replace HS17_ := hcell hb HS17_
            replace HS18_ := hcell hb HS18_
            replace HS19_ := hcell hb HS19_
            replace HS20_ := hcell hb HS20_
            replace HS21_ := hcell hb HS21_
            replace HS22_ := hcell hb HS22_
            replace HS23_ := hcell hb HS23_
            replace HS24_ := hcell hb HS24_
            replace HS25_ := hcell hb HS25_
            replace HS26_ := hcell hb HS26_
            replace HS27_ := hcell hb HS27_
            replace HS28_ := hcell hb HS28_
            replace HS29_ := hcell hb HS29_
            replace HS30_ := hcell hb HS30_
            replace HS31_ := hcell hb HS31_
            replace HS32_ := hcell hb HS32_
            replace HS33_ := hcell hb HS33_
            replace HS34_ := hcell hb HS34_
            replace HS35_ := hcell hb HS35_
            replace HS36_ := hcell hb HS36_
            replace HS37_ := hcell hb HS37_
            replace HS38_ := hcell hb HS38_
            replace HS39_ := hcell hb HS39_
            replace HS40_ := hcell hb HS40_
            replace HS41_ := hcell hb HS41_
            replace HS42_ := hcell hb HS42_
            replace HS43_ := hcell hb HS43_
            replace HS44_ := hcell hb HS44_
            replace HS45_ := hcell hb HS45_
            replace HS46_ := hcell hb HS46_
            replace HS47_ := hcell hb HS47_
            replace HS48_ := hcell hb HS48_
            replace HS49_ := hcell hb HS49_
            replace HS50_ := hcell hb HS50_
            replace HS51_ := hcell hb HS51_
            replace HS52_ := hcell hb HS52_
            replace HS53_ := hcell hb HS53_
            replace HS54_ := hcell hb HS54_
            replace HS55_ := hcell hb HS55_
            replace HS56_ := hcell hb HS56_
            replace HS57_ := hcell hb HS57_
            replace HS58_ := hcell hb HS58_
            replace HS59_ := hcell hb HS59_
            replace HS60_ := hcell hb HS60_
            replace HS61_ := hcell hb HS61_
            replace HS62_ := hcell hb HS62_
            replace HS63_ := hcell hb HS63_
            replace HS64_ := hcell hb HS64_
            replace HS65_ := hcell hb HS65_
            replace HS66_ := hcell hb HS66_
            replace HS67_ := hcell hb HS67_
            replace HS68_ := hcell hb HS68_
            replace HS69_ := hcell hb HS69_
            replace HS70_ := hcell hb HS70_
            replace HS71_ := hcell hb HS71_
            replace HS72_ := hcell hb HS72_
            replace HS73_ := hcell hb HS73_
            replace HS74_ := hcell hb HS74_
            replace HS75_ := hcell hb HS75_
            replace HS76_ := hcell hb HS76_
            replace HS77_ := hcell hb HS77_
            replace HS78_ := hcell hb HS78_
            replace HS79_ := hcell hb HS79_
            refine ⟨_, rfl, ?_⟩
            replace HO330 := As (Kd.R_below (kR HO330.out) hb)
            replace HO340 := As (Kd.S_below (by (with_reducible repeat (first | apply Kd.S_alloc | apply Kd.S_drewN | apply Kd.S_drew)); exact HO340.out) hb)
            replace HO354 := As (Kd.R_below (kR HO354.out) hb)
            replace HL361_10 := As (Kd.R_below (kR HL361_10.out) hb)
            replace HL362_10 := As (Kd.R_below (kR HL362_10.out) hb)
            replace HL363_10 := As (Kd.R_below (kR HL363_10.out) hb)
            replace HL364_10 := As (Kd.R_below (kR HL364_10.out) hb)
            replace BK337 := As (blk_below (kb BK337.out) hb)
            replace HR361_10 := As (Kd.C_below (by repeat (first | (with_reducible exact HR361_10.out) | (with_reducible refine Kd.C_alloc ?_ _) | (with_reducible refine Kd.C_drewN ?_ _) | (with_reducible refine Kd.C_drew ?_) | exact HR361_10.out)) hb)
            replace HR362_10 := As (Kd.C_below (by repeat (first | (with_reducible exact HR362_10.out) | (with_reducible refine Kd.C_alloc ?_ _) | (with_reducible refine Kd.C_drewN ?_ _) | (with_reducible refine Kd.C_drew ?_) | exact HR362_10.out)) hb)
            replace HR363_10 := As (Kd.C_below (by repeat (first | (with_reducible exact HR363_10.out) | (with_reducible refine Kd.C_alloc ?_ _) | (with_reducible refine Kd.C_drewN ?_ _) | (with_reducible refine Kd.C_drew ?_) | exact HR363_10.out)) hb)
            replace HR364_10 := As (Kd.C_below (by repeat (first | (with_reducible exact HR364_10.out) | (with_reducible refine Kd.C_alloc ?_ _) | (with_reducible refine Kd.C_drewN ?_ _) | (with_reducible refine Kd.C_drew ?_) | exact HR364_10.out)) hb)
            replace HB := As (below_step (kB1 HB.out GE337.out) hb)
            (try clear hb)
            (try clear hb2)
            (try clear hk)
            (try clear hi)
            refine hK.out _ _ ⟨kC BK337.out 0, kC BK337.out 1, kC BK337.out 2, kC BK337.out 3, kC BK337.out 4, kC BK337.out 5, kC BK337.out 6, kC BK337.out 7, kC BK337.out 8, kC BK337.out 9, kC BK337.out 10, kC BK337.out 11, kC BK337.out 12, kC BK337.out 13, kC BK337.out 14, kC BK337.out 15, HS16_, HS17_, HS18_, HS19_, HS20_, HS21_, HS22_, HS23_, HS24_, HS25_, HS26_, HS27_, HS28_, HS29_, HS30_, HS31_, HS32_, HS33_, HS34_, HS35_, HS36_, HS37_, HS38_, HS39_, HS40_, HS41_, HS42_, HS43_, HS44_, HS45_, HS46_, HS47_, HS48_, HS49_, HS50_, HS51_, HS52_, HS53_, HS54_, HS55_, HS56_, HS57_, HS58_, HS59_, HS60_, HS61_, HS62_, HS63_, HS64_, HS65_, HS66_, HS67_, HS68_, HS69_, HS70_, HS71_, HS72_, HS73_, HS74_, HS75_, HS76_, HS77_, HS78_, HS79_⟩ (fun hHeld => ?_)
            clear hK K
            refine norm_ (a' := ?_) ?_ ?_
            rotate_left
            ·show Act.put _ (some 93) _ = _
             simp only [Act.put, sA, sZ, sS, i64_w, i32_w]
             rfl
            refine kP 47 94 #[I, I, I, I, I, I, I, I, I, I, I, I, I, I, I, I, I, I, I, I, I, I, I, I, I, I, I, I, I, I, I, I, I, I, I, I, I, I, I, I, I, I, I, I, I, I, I, I, O, O] ?_ (any_of HT_.out (by kernel_rfl))
            refine kP 48 95 #[I, I, I, I, I, I, I, I, I, I, I, I, I, I, I, I, I, I, I, I, I, I, I, I, I, I, I, I, I, I, I, I, I, I, I, I, I, I, I, I, I, I, I, I, I, I, I, I, I, O] ?_ (any_of HT_.out (by kernel_rfl))
            refine kP 49 0 #[I, I, I, I, I, I, I, I, I, I, I, I, I, I, I, I, I, I, I, I, I, I, I, I, I, I, I, I, I, I, I, I, I, I, I, I, I, I, I, I, I, I, I, I, I, I, I, I, I, I] ?_ (any_of HT_.out (by kernel_rfl))
            refine done_ (done_of HT_.out (by kernel_rfl)) ?_
            try go_wp2
            go_ret
            exact ⟨kE, by exact kB1 HB.out GE337.out⟩
           rw [if_neg c35] at H
           have c35b0 : (t376.toList == ([105, 106, 107, 108, 109, 110, 111, 112] : List UInt8)) = false := beq_eq_false_iff_ne.mpr c35
           have c35b1 : (t376.toList != ([105, 106, 107, 108, 109, 110, 111, 112] : List UInt8)) = true := bne_iff_ne.mpr c35
           exact absurd H (by simp)
          replace c33 := Bool.eq_false_iff.mpr c33
          subst c33
          have H1 : (none) = some r := by rw [if_neg (show ¬ (false = true) by decide)] at H; exact H
          clear H
          have H := H1
          clear H1
          exact absurd H (by simp)
         rw [if_neg c31] at H
         exact absurd H (by simp)
        rw [if_neg c28] at H
        have c28b0 : (((rd_T28 t338 2).f9) == 16) = false := beq_eq_false_iff_ne.mpr c28
        have c28b1 : (((rd_T28 t338 2).f9) != 16) = true := bne_iff_ne.mpr c28
        exact absurd H (by simp)
       rw [if_neg c27] at H
       exact absurd H (by simp)
      rw [if_neg c26] at H
      have c26b0 : ((t338.length : Int) == 3) = false := beq_eq_false_iff_ne.mpr c26
      have c26b1 : ((t338.length : Int) != 3) = true := bne_iff_ne.mpr c26
      exact absurd H (by simp)
     rw [if_neg c25] at H
     have c25b0 : (t341 == 0) = false := beq_eq_false_iff_ne.mpr c25
     have c25b1 : (t341 != 0) = true := bne_iff_ne.mpr c25
     exact absurd H (by simp)
    rw [if_neg c24] at H
    have c24b0 : (t336 == 0) = false := beq_eq_false_iff_ne.mpr c24
    have c24b1 : (t336 != 0) = true := bne_iff_ne.mpr c24
    exact absurd H (by simp)
   replace c23 := Bool.eq_false_iff.mpr c23
   subst c23
   have H1 : (none) = some r := by rw [if_neg (show ¬ (false = true) by decide)] at H; exact H
   clear H
   have H := H1
   clear H1
   exact absurd H (by simp)
  rw [if_neg c18] at H
  exact absurd H (by simp)

end Go.Proofs.Ytljboandbjahdaa.X
-- short
