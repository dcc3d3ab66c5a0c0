/- Functions and their walks, printed by xprint.py. -/
import Derived.Test.YtobioaommmgehaaZ0
import Derived.Test.YtobioaommmgehaaZ17
import Derived.Test.YtobioaommmgehaaZ18
namespace Go.Proofs.Ytobioaommmgehaa.Z
open Go.RowKit Go.Proofs.YtobioaommmgehaaW.PrintWords Go.Proofs.YtobioaommmgehaaW.PrintLast Go.Proofs.YtobioaommmgehaaW.PrintMore
attribute [local go_sem] max2_int min2_int max_two min_two max_three min_three max_four min_four   -- for this text's walks alone
set_option linter.unusedVariables false
set_option linter.unusedSimpArgs false

/-! ### intrusionref11_Split: function 22 -/
mutual
def intrusionref11_Split.j0 : Nat → Int → Bool → Int → Int → Int → Int → Bool → Bool → Int → Bool → Int → Int → Bool → Int → Int → List (S50) → ByteArray → Option ((List (S28)) × Int)
 | 0, _, _, _, _, _, _, _, _, _, _, _, _, _, _, _, _, _ => none
 | k + 1, x1, x18, b0, b1, b2, b3, b4, b5, b6, b7, b8, b9, b10, b11, b12, b13, b14 => if x18 = true then (some (([] : List (S28)), 4)) else ((intrusionref11_Encode.f k b0 b1 b2 b3 b4 b5 b6 b7 b8 b9 b10 b11 b12 b13 b14).bind fun bt451 => (if bt451.2 = 0 then (if (b14.size : Int) ≤ x1 then ((intrusionref11_copied.f k b0 b1 b2 b3 b4 b5 b6 b7 b8 b9 b10 b11 b12 b13 b14 b14 b6 b5 0).bind fun bt453 => (some ((([(⟨bt453.1, bt453.2.1, bt453.2.2.1, bt453.2.2.2.1, bt453.2.2.2.2.1, bt453.2.2.2.2.2.1, bt453.2.2.2.2.2.2.1, (⟨bt453.2.2.2.2.2.2.2.1, bt453.2.2.2.2.2.2.2.2.1, bt453.2.2.2.2.2.2.2.2.2.1⟩ : S25), (⟨bt453.2.2.2.2.2.2.2.2.2.2.1, bt453.2.2.2.2.2.2.2.2.2.2.2.1, bt453.2.2.2.2.2.2.2.2.2.2.2.2.1⟩ : S25), bt453.2.2.2.2.2.2.2.2.2.2.2.2.2.1, bt453.2.2.2.2.2.2.2.2.2.2.2.2.2.2⟩ : S28)] : List (S28))), 0))) else (if b4 = true then (some (([] : List (S28)), 10)) else (intrusionref11_Split.l0 k x1 (([] : List (S28))) 0 b0 b1 b2 b3 b4 b5 b6 b7 b8 b9 b10 b11 b12 b13 b14))) else (some (([] : List (S28)), bt451.2))))
def intrusionref11_Split.l0 : Nat → Int → List (S28) → Int → Int → Int → Int → Int → Bool → Bool → Int → Bool → Int → Int → Bool → Int → Int → List (S50) → ByteArray → Option ((List (S28)) × Int)
 | 0, _, _, _, _, _, _, _, _, _, _, _, _, _, _, _, _, _, _ => none
 | k + 1, x1, x8, x9, b0, b1, b2, b3, b4, b5, b6, b7, b8, b9, b10, b11, b12, b13, b14 => if x9 < (b14.size : Int) then (if (wrap64 (b6 + x9)) > 65528 then (some (([] : List (S28)), 4)) else (if ((wrap64 ((b14.size : Int) - x9)) ≤ x1) then (if 0 ≤ x9 then (if x9 ≤ (wrap64 (x9 + (wrap64 ((b14.size : Int) - x9)))) then (if (wrap64 (x9 + (wrap64 ((b14.size : Int) - x9)))) ≤ (b14.size : Int) then ((intrusionref11_copied.f k b0 b1 b2 b3 b4 b5 b6 b7 b8 b9 b10 b11 b12 b13 b14 (b14.extract (x9 : Int).toNat ((wrap64 (x9 + (wrap64 ((b14.size : Int) - x9)))) : Int).toNat) (wrap64 (b6 + x9)) b5 x9).bind fun bt476 => (if x8.length < 1034834473200 then ((some (x8 ++ [(⟨bt476.1, bt476.2.1, bt476.2.2.1, bt476.2.2.2.1, bt476.2.2.2.2.1, bt476.2.2.2.2.2.1, bt476.2.2.2.2.2.2.1, (⟨bt476.2.2.2.2.2.2.2.1, bt476.2.2.2.2.2.2.2.2.1, bt476.2.2.2.2.2.2.2.2.2.1⟩ : S25), (⟨bt476.2.2.2.2.2.2.2.2.2.2.1, bt476.2.2.2.2.2.2.2.2.2.2.2.1, bt476.2.2.2.2.2.2.2.2.2.2.2.2.1⟩ : S25), bt476.2.2.2.2.2.2.2.2.2.2.2.2.2.1, bt476.2.2.2.2.2.2.2.2.2.2.2.2.2.2⟩ : S28)] : List (S28))).bind fun y493 => (if (wrap64 ((b14.size : Int) - x9)) ≤ x1 then (some (y493, 0)) else (intrusionref11_Split.l0 k x1 y493 (wrap64 (x9 + x1)) b0 b1 b2 b3 b4 b5 b6 b7 b8 b9 b10 b11 b12 b13 b14))) else (none))) else (none)) else (none)) else (none)) else (if 0 ≤ x9 then (if x9 ≤ (wrap64 (x9 + x1)) then (if (wrap64 (x9 + x1)) ≤ (b14.size : Int) then ((intrusionref11_copied.f k b0 b1 b2 b3 b4 b5 b6 b7 b8 b9 b10 b11 b12 b13 b14 (b14.extract (x9 : Int).toNat ((wrap64 (x9 + x1)) : Int).toNat) (wrap64 (b6 + x9)) true x9).bind fun bt496 => (if x8.length < 1034834473200 then ((some (x8 ++ [(⟨bt496.1, bt496.2.1, bt496.2.2.1, bt496.2.2.2.1, bt496.2.2.2.2.1, bt496.2.2.2.2.2.1, bt496.2.2.2.2.2.2.1, (⟨bt496.2.2.2.2.2.2.2.1, bt496.2.2.2.2.2.2.2.2.1, bt496.2.2.2.2.2.2.2.2.2.1⟩ : S25), (⟨bt496.2.2.2.2.2.2.2.2.2.2.1, bt496.2.2.2.2.2.2.2.2.2.2.2.1, bt496.2.2.2.2.2.2.2.2.2.2.2.2.1⟩ : S25), bt496.2.2.2.2.2.2.2.2.2.2.2.2.2.1, bt496.2.2.2.2.2.2.2.2.2.2.2.2.2.2⟩ : S28)] : List (S28))).bind fun y513 => (if (wrap64 ((b14.size : Int) - x9)) ≤ x1 then (some (y513, 0)) else (intrusionref11_Split.l0 k x1 y513 (wrap64 (x9 + x1)) b0 b1 b2 b3 b4 b5 b6 b7 b8 b9 b10 b11 b12 b13 b14))) else (none))) else (none)) else (none)) else (none)))) else (some (x8, 0))
end
def intrusionref11_Split.f (k : Nat) (d0 : Int) (d1 : Int) (d2 : Int) (d3 : Int) (d4 : Bool) (d5 : Bool) (d6 : Int) (d7 : Bool) (d8 : Int) (d9 : Int) (d10 : Bool) (d11 : Int) (d12 : Int) (l0_13 : List (S50)) (d14 : ByteArray) (a1 : Int) : Option ((List (S28)) × Int) := if a1 < 8 then (intrusionref11_Split.j0 k a1 true d0 d1 d2 d3 d4 d5 d6 d7 d8 d9 d10 d11 d12 l0_13 d14) else (intrusionref11_Split.j0 k a1 ((Int.tmod a1 8) != 0) d0 d1 d2 d3 d4 d5 d6 d7 d8 d9 d10 d11 d12 l0_13 d14)
theorem intrusionref11_Split.mono_l : ∀ k, (∀ y0 y1 y2 y3 y4 y5 y6 y7 y8 y9 y10 y11 y12 y13 y14 y15 y16, LeO (intrusionref11_Split.j0 k y0 y1 y2 y3 y4 y5 y6 y7 y8 y9 y10 y11 y12 y13 y14 y15 y16) (intrusionref11_Split.j0 (k + 1) y0 y1 y2 y3 y4 y5 y6 y7 y8 y9 y10 y11 y12 y13 y14 y15 y16)) ∧ (∀ y0 y1 y2 y3 y4 y5 y6 y7 y8 y9 y10 y11 y12 y13 y14 y15 y16 y17, LeO (intrusionref11_Split.l0 k y0 y1 y2 y3 y4 y5 y6 y7 y8 y9 y10 y11 y12 y13 y14 y15 y16 y17) (intrusionref11_Split.l0 (k + 1) y0 y1 y2 y3 y4 y5 y6 y7 y8 y9 y10 y11 y12 y13 y14 y15 y16 y17))
 | 0 => ⟨fun _ _ _ _ _ _ _ _ _ _ _ _ _ _ _ _ _ r h => by simp [intrusionref11_Split.j0] at h, fun _ _ _ _ _ _ _ _ _ _ _ _ _ _ _ _ _ _ r h => by simp [intrusionref11_Split.l0] at h⟩
 | k + 1 => by
  obtain ⟨ih0, ih1⟩ := intrusionref11_Split.mono_l k
  refine ⟨?_, ?_⟩
  ·intro y0 y1 y2 y3 y4 y5 y6 y7 y8 y9 y10 y11 y12 y13 y14 y15 y16
   unfold intrusionref11_Split.j0
   repeat' first | with_reducible first | apply ih0 | apply ih1 | apply intrusionref11_Encode.mono | apply intrusionref11_copied.mono | apply LeO.refl | apply LeO.none | refine LeO.ite ?_ ?_ | refine LeO.bind ?_ (fun _ => ?_)
  intro y0 y1 y2 y3 y4 y5 y6 y7 y8 y9 y10 y11 y12 y13 y14 y15 y16 y17
  unfold intrusionref11_Split.l0
  repeat' first | with_reducible first | apply ih0 | apply ih1 | apply intrusionref11_Encode.mono | apply intrusionref11_copied.mono | apply LeO.refl | apply LeO.none | refine LeO.ite ?_ ?_ | refine LeO.bind ?_ (fun _ => ?_)
theorem intrusionref11_Split.mono : ∀ a0 a1 a2 a3 a4 a5 a6 a7 a8 a9 a10 a11 a12 a13 a14 a15 k, LeO (intrusionref11_Split.f k a0 a1 a2 a3 a4 a5 a6 a7 a8 a9 a10 a11 a12 a13 a14 a15) (intrusionref11_Split.f (k + 1) a0 a1 a2 a3 a4 a5 a6 a7 a8 a9 a10 a11 a12 a13 a14 a15) := by
 intro a0 a1 a2 a3 a4 a5 a6 a7 a8 a9 a10 a11 a12 a13 a14 a15 k
 obtain ⟨ih0, ih1⟩ := intrusionref11_Split.mono_l k
 unfold intrusionref11_Split.f
 repeat' first | with_reducible first | apply ih0 | apply ih1 | apply intrusionref11_Encode.mono | apply intrusionref11_copied.mono | apply LeO.refl | apply LeO.none | refine LeO.ite ?_ ?_ | refine LeO.bind ?_ (fun _ => ?_)
def intrusionref11_Split.T20 : Bool × List (List Nat × List Nat) := (true, [([], []), ([], []), ([], []), ([2], [2]), ([], []), ([], []), ([], []), ([5, 6], [5, 6]), ([3, 4, 7], [3, 4, 7]), ([], []), ([9], [9]), ([], []), ([10, 11], [10, 11]), ([], []), ([13], [13]), ([14], [14]), ([15], [15]), ([16, 15], [15, 16]), ([15, 17], [15, 17]), ([], []), ([1, 8, 12, 18, 19, 15], [1, 8, 12, 18, 19]), ([20], [20]), ([0, 21, 20], [0, 21]), ([22, 22, 0, 1, 2, 3, 4, 5, 6, 7, 8, 9, 10, 11, 12, 13, 14, 15, 16, 17, 18, 19, 20, 21, 22], [0, 22])])
def intrusionref11_Split.B20 : List Nat := [0, 0, 0, 4, 0, 0, 0, 96, 252, 0, 512, 0, 3584, 0, 8192, 24576, 57344, 122880, 253952, 0, 1048574, 2097150, 4194303, 8388607]
theorem intrusionref11_Split.tab20 : rtab .any (opsOf Try.f22 20) = intrusionref11_Split.T20 := by kernel_rfl
theorem intrusionref11_Split.bits20 : waitsOk intrusionref11_Split.T20.2 intrusionref11_Split.B20 = true := by kernel_rfl
set_option maxHeartbeats 8000000 in
set_option maxRecDepth 100000 in
theorem intrusionref11_Split.calls (k : Nat) (d0 : Int) (d1 : Int) (d2 : Int) (d3 : Int) (d4 : Bool) (d5 : Bool) (d6 : Int) (d7 : Bool) (d8 : Int) (d9 : Int) (d10 : Bool) (d11 : Int) (d12 : Int) (A0_13 : Option Addr) (c0_13 : Nat) (l0_13 : List (S50)) (d14 : ByteArray) (a1 : Int) (r1 : List (S28)) (r2 : Int) (w : World) (hr0_13 : Kd.C k50 w A0_13 l0_13.length l0_13) (hc0_13 : l0_13.length ≤ c0_13) (h : intrusionref11_Split.f k d0 d1 d2 d3 d4 d5 d6 d7 d8 d9 d10 d11 d12 l0_13 d14 a1 = some (r1, r2)) :
  Calls Try.prog 22 #[.agg #[.int .i64 d0, .int .i64 d1, .int .i64 d2, .int .i64 d3, .bool d4, .bool d5, .int .i64 d6, .bool d7, .int .u64 d8, .int .u64 d9, .bool d10, .int .u64 d11, .int .u64 d12, .slice A0_13 l0_13.length c0_13, .string d14], .int .i64 a1] w fun e w' => ∃ v0_ : Value, e = .returned (.tuple #[v0_, .int .i64 r2]) ∧ Kd.N k28 28 w' w.heap.size (fun k_ => (w.heap.size ≤ k_)) v0_ r1 ∧ Below w.heap.size w w' := by
 have hu28 := Try.underlying28
 have HR0_13 := As hr0_13
 have HC0_13 := As hc0_13
 clear hr0_13 hc0_13
 have HB := As (Below.refl w.heap.size w)
 have H : (if a1 < 8 then (intrusionref11_Split.j0 k a1 true d0 d1 d2 d3 d4 d5 d6 d7 d8 d9 d10 d11 d12 l0_13 d14) else (intrusionref11_Split.j0 k a1 ((Int.tmod a1 8) != 0) d0 d1 d2 d3 d4 d5 d6 d7 d8 d9 d10 d11 d12 l0_13 d14)) = some (r1, r2) := h
 clear h
 have HC3 := As H
 clear H
 go_enter Try.func22, Try.ntmps22
 go_upto_region 1 with (first | ((with_reducible refine gate_dst (N := 2) rfl ?_); refine box_event rfl (N := 2) rfl (cs := #[.int .i64 d0, .int .i64 d1, .int .i64 d2, .int .i64 d3, .bool d4, .bool d5, .int .i64 d6, .bool d7, .int .u64 d8, .int .u64 d9, .bool d10, .int .u64 d11, .int .u64 d12, .slice A0_13 l0_13.length c0_13, .string d14]) (t := 28) kG ?_; intro gb450 hg w4 hbox hb; have BK450 := As (hbox); have GW450 := As (gS hg (below_size (kB HB.out))); have GE450 := As (gS hg (below_size (kB HB.out))); replace HB := As (below_step (kB HB.out) hb); clear hb hbox hg))
 (try simp only [Act.put, sA, sZ, sS])
 go_cut [18] (fun v18 wc => ∃ (kq : Nat) (x18_2 : Bool), v18 = .bool x18_2 ∧ Aside0 (intrusionref11_Split.j0 kq a1 x18_2 d0 d1 d2 d3 d4 d5 d6 d7 d8 d9 d10 d11 d12 l0_13 d14 = some (r1, r2)) ∧ Aside0 (kq ≤ k) ∧ Aside0 (wc.heap[gb450]? = some (.cells #[.int .i64 d0, .int .i64 d1, .int .i64 d2, .int .i64 d3, .bool d4, .bool d5, .int .i64 d6, .bool d7, .int .u64 d8, .int .u64 d9, .bool d10, .int .u64 d11, .int .u64 d12, (.slice A0_13 l0_13.length c0_13), .string d14] 28 (0, 0))) ∧ Aside0 (Below w.heap.size w wc))
 case first =>
  have H := HC3.out
  clear HC3
  by_cases c5 : a1 < 8
  ·rw [if_pos c5] at H
   have c5b0 : decide (a1 < 8) = true := decide_eq_true c5
   clear c5
   (first | rw [c5b0] | (simp only [i64_w, i32_w]; rw [c5b0]) | skip)
   have H' := As H
   clear H
   go_wp2
   go_meet
   case rel => exact ⟨_, (true), kS, H', ⟨by first | omega | exact Nat.le_refl _⟩, ⟨kb BK450.out⟩, ⟨kB1 HB.out GE450.out⟩⟩
  rw [if_neg c5] at H
  have c5b0 : decide (a1 < 8) = false := decide_eq_false c5
  clear c5
  (first | rw [c5b0] | (simp only [i64_w, i32_w]; rw [c5b0]) | skip)
  have H' := As H
  clear H
  go_wp2
  go_meet
  case rel => exact ⟨_, (((Int.tmod a1 8) != 0)), kS, H', ⟨by first | omega | exact Nat.le_refl _⟩, ⟨kb BK450.out⟩, ⟨kB1 HB.out GE450.out⟩⟩
 clear HC3
 obtain ⟨kq, x18_2, rfl, HA, HJ2, BK450, HB⟩ := hcut
 cases kq with
 | zero => exact absurd HA.out (by simp [intrusionref11_Split.j0])
 | succ kj2 =>
  have H := HA.out
  clear HA
  simp only [intrusionref11_Split.j0] at H
  by_cases c6 : x18_2 = true
  ·subst c6
   rw [if_pos rfl] at H
   simp only [Option.some.injEq, Prod.mk.injEq] at H
   obtain ⟨rfl, rfl⟩ := H
   go_wp2
   go_ret2
   exact ⟨_, kE, by first | exact Kd.S_nil _ _ _ _ _ | exact Kd.N_nil _ _ _ _ _ | exact Kd.V_nil _ _ _ _ _ | exact Kd.Q_nil _ _ _ _ _ | exact Kd.R_nil _ _ _ _ _, by exact kB1 HB.out GE450.out⟩
  replace c6 := Bool.eq_false_iff.mpr c6
  subst c6
  rw [if_neg (show ¬ (false = true) by decide)] at H
  replace H := bS H
  obtain ⟨⟨t451, t452⟩, A7, H⟩ := H
  try dsimp -simprocs only at H
  by_cases c8 : t452 = 0
  ·rw [if_pos c8] at H
   have c8b0 : (t452 == 0) = true := beq_iff_eq.mpr c8
   have c8b1 : (t452 != 0) = false := bne_eq_false_iff_eq.mpr c8
   clear c8
   by_cases c9 : (d14.size : Int) ≤ a1
   ·rw [if_pos c9] at H
    have c9b0 : decide ((d14.size : Int) ≤ a1) = true := decide_eq_true c9
    clear c9
    replace H := bS H
    obtain ⟨⟨t453, t454, t455, t456, t457, t458, t459, t460, t461, t462, t463, t464, t465, t466, t469⟩, A10, H⟩ := H
    try dsimp -simprocs only at H
    obtain ⟨y470, hy470⟩ : ∃ y_ : List (S28), y_ = (([(⟨t453, t454, t455, t456, t457, t458, t459, (⟨t460, t461, t462⟩ : S25), (⟨t463, t464, t465⟩ : S25), t466, t469⟩ : S28)] : List (S28))) := ⟨_, rfl⟩
    replace H : (some (y470, 0)) = some (r1, r2) := by first | (rw [hy470]; with_reducible exact H) | (have H2_ := (Option.bind_some _ _).symm.trans H; rw [hy470]; with_reducible exact H2_) | (have H2_ := (Option.bind_some _ _).symm.trans H; with_reducible exact H2_) | with_reducible exact H | (rw [hy470]; exact H) | exact H
    have Ny470 := As hy470
    clear hy470
    simp only [Option.some.injEq, Prod.mk.injEq] at H
    obtain ⟨rfl, rfl⟩ := H
    go_wp2_with (first | ((with_reducible refine gate_dst (N := 20) rfl ?_); (try (refine gate_guard (by rfl) ?_; dsimp only)); refine wpList_load_row rfl 28 _ rfl gb450 rfl 28 _ (0, 0) _ (kb BK450.out) Try.underlying28 rfl (by kernel_rfl) ?_) | ((with_reducible refine gate_callee (f := 16) rfl ?_); refine goesL_ (some 21) rfl rfl Try.func16 (by kernel_rfl) rfl #[.agg #[.int .i64 d0, .int .i64 d1, .int .i64 d2, .int .i64 d3, .bool d4, .bool d5, .int .i64 d6, .bool d7, .int .u64 d8, .int .u64 d9, .bool d10, .int .u64 d11, .int .u64 d12, .slice A0_13 l0_13.length c0_13, .string d14]] rfl kA ?_; (with_reducible refine (intrusionref11_Encode.calls kj2 d0 d1 d2 d3 d4 d5 d6 d7 d8 d9 d10 d11 d12 _ _ l0_13 d14 t451 t452 _ ?side1 ?side2 A7.out).mono ?_); (case side1 => repeat (first | exact (Kd.C_below HR0_13.out HB.out) | (with_reducible refine Kd.C_alloc ?_ _) | (with_reducible refine Kd.C_drewN ?_ _) | (with_reducible refine Kd.C_drew ?_))); (case side2 => exact HC0_13.out); rintro e w11 ⟨rfl, hb⟩; refine ⟨_, rfl, ?_⟩; replace BK450 := As (blk_below (kb BK450.out) hb); replace HB := As (below_step (kB1 HB.out GE450.out) hb); (try clear hb); have hcz12_0 := cells_15 BK450.out; have hfz12_0 := fun j_ => blk_frozen BK450.out j_) | ((with_reducible refine gate_dst (N := 32) rfl ?_); (try (refine gate_guard (by rfl) ?_; dsimp only)); refine wpList_load_row rfl 28 _ rfl gb450 rfl 28 _ (0, 0) _ (kb BK450.out) Try.underlying28 rfl (by kernel_rfl) ?_) | ((with_reducible refine gate_callee (f := 51) rfl ?_); refine goesL_ (some 39) rfl rfl Try.func51 (by kernel_rfl) rfl #[.agg #[.int .i64 d0, .int .i64 d1, .int .i64 d2, .int .i64 d3, .bool d4, .bool d5, .int .i64 d6, .bool d7, .int .u64 d8, .int .u64 d9, .bool d10, .int .u64 d11, .int .u64 d12, .slice A0_13 l0_13.length c0_13, .string d14], .string d14, .int .i64 d6, .bool d5, .int .i64 0] rfl kA ?_; (with_reducible refine (intrusionref11_copied.calls kj2 d0 d1 d2 d3 d4 d5 d6 d7 d8 d9 d10 d11 d12 _ _ l0_13 d14 d14 d6 d5 0 t453 t454 t455 t456 t457 t458 t459 t460 t461 t462 t463 t464 t465 t466 t469 _ ?side1 ?side2 A10.out).mono ?_); (case side1 => repeat (first | exact (Kd.C_below HR0_13.out HB.out) | (with_reducible refine Kd.C_alloc ?_ _) | (with_reducible refine Kd.C_drewN ?_ _) | (with_reducible refine Kd.C_drew ?_))); (case side2 => exact HC0_13.out); rintro e w13 ⟨v467, rfl, ho0, hb⟩; refine ⟨_, rfl, ?_⟩; have HO468 := As (Kd.R_lower (Kd.R_newM (M := fun k_ => (w.heap.size ≤ k_)) ho0 (below_size (kB1 HB.out GE450.out)) (fun k_ h_ => h_)) (below_size (kB1 HB.out GE450.out))); replace BK450 := As (blk_below (kb BK450.out) hb); replace HB := As (below_step (kB1 HB.out GE450.out) hb); (try clear hb); (try clear ho0); obtain ⟨Ao14, co14, eo14⟩ := Kd.R_slice HO468.out; subst eo14) | ((with_reducible refine gate_dst (N := 40) rfl ?_); refine Kd.N_lit k28 _ 28 ?hg (N' := 40) ?hd (xs := ([(⟨t453, t454, t455, t456, t457, t458, t459, (⟨t460, t461, t462⟩ : S25), (⟨t463, t464, t465⟩ : S25), t466, t469⟩ : S28)] : List (S28))) (inner := [.int .i64 t453, .int .i64 t454, .int .i64 t455, .int .i64 t456, .bool t457, .bool t458, .int .i64 t459, .bool t460, .int .u64 t461, .int .u64 t462, .bool t463, .int .u64 t464, .int .u64 t465, .slice Ao14 t466.length co14, .string t469]) (ok := (fun k_ => (w.heap.size ≤ k_) ∧ k_ ≠ gb450)) (okp := (fun k_ => (w.heap.size ≤ k_) ∧ k_ ≠ gb450)) kG ?hp (fun _ hk => hk) ((show ∀ k_, w13.heap.size ≤ k_ → (fun k_ => (w.heap.size ≤ k_) ∧ k_ ≠ gb450) k_ from fun k_ hk => ⟨(Nat.le_trans (below_size (kB1 HB.out GE450.out)) hk), Kd.freshB (kb BK450.out) k_ hk⟩) _ (Nat.le_refl _)) (Below.refl _ _) (Nat.le_refl _) (by simp) ?_; (case hd => rfl); (case hg => rfl); skip; (case hp => exact (Reps.front (show Kd.FK k28 _ _ (⟨t453, t454, t455, t456, t457, t458, t459, (⟨t460, t461, t462⟩ : S25), (⟨t463, t464, t465⟩ : S25), t466, t469⟩ : S28) [.int .i64 t453, .int .i64 t454, .int .i64 t455, .int .i64 t456, .bool t457, .bool t458, .int .i64 t459, .bool t460, .int .u64 t461, .int .u64 t462, .bool t463, .int .u64 t464, .int .u64 t465, .slice Ao14 t466.length co14, .string t469] from (k28_mkF _ _ (⟨t453, t454, t455, t456, t457, t458, t459, (⟨t460, t461, t462⟩ : S25), (⟨t463, t464, t465⟩ : S25), t466, t469⟩ : S28) (Kd.R_reads' (Kd.R_mono (ok' := (fun k_ => (w.heap.size ≤ k_) ∧ k_ ≠ gb450)) (Kd.R_types (HO468.out) BK450.out (by decide)) (fun k_ hk => ⟨hk.1.1, hk.2⟩))).2.1 (Kd.R_F (Kd.R_mono (ok' := (fun k_ => (w.heap.size ≤ k_) ∧ k_ ≠ gb450)) (Kd.R_types (HO468.out) BK450.out (by decide)) (fun k_ hk => ⟨hk.1.1, hk.2⟩))))) rfl (Reps.none _ _) rfl)); intro v471 w15 ho16 hb hg_ hnew_; clear hg_ hnew_; (first | rw [← Ny470.out] at ho16 | (simp only [Int.reduceToNat] at ho16; rw [← Ny470.out] at ho16)); have HO472 := As (Kd.N_lower ho16 (below_size (kB1 HB.out GE450.out))); replace BK450 := As (blk_below (kb BK450.out) hb); replace HB := As (below_step (kB1 HB.out GE450.out) hb); clear HO468; clear hb ho16))
    go_ret2
    exact ⟨_, kE, by (with_reducible repeat (first | apply Kd.N_alloc | apply Kd.N_drewN | apply Kd.N_drew)); exact Kd.N_mono HO472.out (fun _ hk => hk.1), by exact kB1 HB.out GE450.out⟩
   rw [if_neg c9] at H
   have c9b0 : decide ((d14.size : Int) ≤ a1) = false := decide_eq_false c9
   clear c9
   by_cases c17 : d4 = true
   ·subst c17
    rw [if_pos rfl] at H
    simp only [Option.some.injEq, Prod.mk.injEq] at H
    obtain ⟨rfl, rfl⟩ := H
    go_wp2_with (first | ((with_reducible refine gate_dst (N := 20) rfl ?_); (try (refine gate_guard (by rfl) ?_; dsimp only)); refine wpList_load_row rfl 28 _ rfl gb450 rfl 28 _ (0, 0) _ (kb BK450.out) Try.underlying28 rfl (by kernel_rfl) ?_) | ((with_reducible refine gate_callee (f := 16) rfl ?_); refine goesL_ (some 21) rfl rfl Try.func16 (by kernel_rfl) rfl #[.agg #[.int .i64 d0, .int .i64 d1, .int .i64 d2, .int .i64 d3, .bool true, .bool d5, .int .i64 d6, .bool d7, .int .u64 d8, .int .u64 d9, .bool d10, .int .u64 d11, .int .u64 d12, .slice A0_13 l0_13.length c0_13, .string d14]] rfl kA ?_; (with_reducible refine (intrusionref11_Encode.calls kj2 d0 d1 d2 d3 true d5 d6 d7 d8 d9 d10 d11 d12 _ _ l0_13 d14 t451 t452 _ ?side1 ?side2 A7.out).mono ?_); (case side1 => repeat (first | exact (Kd.C_below HR0_13.out HB.out) | (with_reducible refine Kd.C_alloc ?_ _) | (with_reducible refine Kd.C_drewN ?_ _) | (with_reducible refine Kd.C_drew ?_))); (case side2 => exact HC0_13.out); rintro e w18 ⟨rfl, hb⟩; refine ⟨_, rfl, ?_⟩; replace BK450 := As (blk_below (kb BK450.out) hb); replace HB := As (below_step (kB1 HB.out GE450.out) hb); (try clear hb); have hcz19_0 := cells_15 BK450.out; have hfz19_0 := fun j_ => blk_frozen BK450.out j_))
    go_ret2
    exact ⟨_, kE, by first | exact Kd.S_nil _ _ _ _ _ | exact Kd.N_nil _ _ _ _ _ | exact Kd.V_nil _ _ _ _ _ | exact Kd.Q_nil _ _ _ _ _ | exact Kd.R_nil _ _ _ _ _, by exact kB1 HB.out GE450.out⟩
   replace c17 := Bool.eq_false_iff.mpr c17
   subst c17
   rw [if_neg (show ¬ (false = true) by decide)] at H
   obtain ⟨y473, hy473⟩ : ∃ y_ : List (S28), y_ = (([] : List (S28))) := ⟨_, rfl⟩
   replace H : (intrusionref11_Split.l0 kj2 a1 y473 0 d0 d1 d2 d3 false d5 d6 d7 d8 d9 d10 d11 d12 l0_13 d14) = some (r1, r2) := by first | (rw [hy473]; with_reducible exact H) | (have H2_ := (Option.bind_some _ _).symm.trans H; rw [hy473]; with_reducible exact H2_) | (have H2_ := (Option.bind_some _ _).symm.trans H; with_reducible exact H2_) | with_reducible exact H | (rw [hy473]; exact H) | exact H
   have Ny473 := As hy473
   clear hy473
   have H' := As H
   clear H
   go_wp2_with (first | ((with_reducible refine gate_dst (N := 20) rfl ?_); (try (refine gate_guard (by rfl) ?_; dsimp only)); refine wpList_load_row rfl 28 _ rfl gb450 rfl 28 _ (0, 0) _ (kb BK450.out) Try.underlying28 rfl (by kernel_rfl) ?_) | ((with_reducible refine gate_callee (f := 16) rfl ?_); refine goesL_ (some 21) rfl rfl Try.func16 (by kernel_rfl) rfl #[.agg #[.int .i64 d0, .int .i64 d1, .int .i64 d2, .int .i64 d3, .bool false, .bool d5, .int .i64 d6, .bool d7, .int .u64 d8, .int .u64 d9, .bool d10, .int .u64 d11, .int .u64 d12, .slice A0_13 l0_13.length c0_13, .string d14]] rfl kA ?_; (with_reducible refine (intrusionref11_Encode.calls kj2 d0 d1 d2 d3 false d5 d6 d7 d8 d9 d10 d11 d12 _ _ l0_13 d14 t451 t452 _ ?side1 ?side2 A7.out).mono ?_); (case side1 => repeat (first | exact (Kd.C_below HR0_13.out HB.out) | (with_reducible refine Kd.C_alloc ?_ _) | (with_reducible refine Kd.C_drewN ?_ _) | (with_reducible refine Kd.C_drew ?_))); (case side2 => exact HC0_13.out); rintro e w20 ⟨rfl, hb⟩; refine ⟨_, rfl, ?_⟩; replace BK450 := As (blk_below (kb BK450.out) hb); replace HB := As (below_step (kB1 HB.out GE450.out) hb); (try clear hb); have hcz21_0 := cells_15 BK450.out; have hfz21_0 := fun j_ => blk_frozen BK450.out j_) | ((with_reducible refine gate_dst (N := 43) rfl ?_); refine Kd.N_lit k28 _ 28 ?hg (N' := 43) ?hd (xs := ([] : List (S28))) (inner := []) (ok := (fun k_ => (w.heap.size ≤ k_) ∧ k_ ≠ gb450)) (okp := (fun k_ => (w.heap.size ≤ k_) ∧ k_ ≠ gb450)) kG ?hp (fun _ hk => hk) ((show ∀ k_, w20.heap.size ≤ k_ → (fun k_ => (w.heap.size ≤ k_) ∧ k_ ≠ gb450) k_ from fun k_ hk => ⟨(Nat.le_trans (below_size (kB1 HB.out GE450.out)) hk), Kd.freshB (kb BK450.out) k_ hk⟩) _ (Nat.le_refl _)) (Below.refl _ _) (Nat.le_refl _) (by simp) ?_; (case hd => rfl); (case hg => rfl); skip; (case hp => exact (Reps.none _ _)); intro v474 w22 ho23 hb hg_ hnew_; clear hg_ hnew_; (first | rw [← Ny473.out] at ho23 | (simp only [Int.reduceToNat] at ho23; rw [← Ny473.out] at ho23)); have HO475 := As (Kd.N_lower ho23 (below_size (kB1 HB.out GE450.out))); replace BK450 := As (blk_below (kb BK450.out) hb); replace HB := As (below_step (kB1 HB.out GE450.out) hb); clear hb ho23))
   go_loopg [8, 9] kj2 (fun kq v8 v9 w' => ∃ (x8_2 : List (S28)) (x9_2 : Int), v9 = .int .i64 x9_2 ∧ Aside0 (intrusionref11_Split.l0 kq a1 x8_2 x9_2 d0 d1 d2 d3 false d5 d6 d7 d8 d9 d10 d11 d12 l0_13 d14 = some (r1, r2)) ∧ Aside0 (kq ≤ kj2) ∧ Aside0 (Kd.N k28 28 w' w.heap.size (fun k_ => (w.heap.size ≤ k_) ∧ k_ ≠ gb450) v8 x8_2) ∧ Aside0 (w'.heap[gb450]? = some (.cells #[.int .i64 d0, .int .i64 d1, .int .i64 d2, .int .i64 d3, .bool false, .bool d5, .int .i64 d6, .bool d7, .int .u64 d8, .int .u64 d9, .bool d10, .int .u64 d11, .int .u64 d12, (.slice A0_13 l0_13.length c0_13), .string d14] 28 (0, 0))) ∧ Aside0 (Below w.heap.size w w'))
   case atStart => exact ⟨(y473), (0), kS, H', ⟨Nat.le_refl _⟩, ⟨by (with_reducible repeat (first | apply Kd.N_alloc | apply Kd.N_drewN | apply Kd.N_drew)); exact HO475.out⟩, ⟨kb BK450.out⟩, ⟨kB1 HB.out GE450.out⟩⟩
   clear H'
   try clear c6
   try clear c8
   try clear c8b0
   try clear c8b1
   try clear c9
   try clear c9b0
   try clear c17
   try clear hcz21_0
   try clear hfz21_0
   obtain ⟨x8_2, x9_2, rfl, HA, HK2, HO_8, BK450, HB⟩ := hrel
   cases gk with
   | zero => exact absurd HA.out (by simp [intrusionref11_Split.l0])
   | succ k2 =>
    have H := HA.out
    clear HA
    simp only [intrusionref11_Split.l0] at H
    by_cases c24 : x9_2 < (d14.size : Int)
    ·rw [if_pos c24] at H
     have c24b0 : decide (x9_2 < (d14.size : Int)) = true := decide_eq_true c24
     clear c24
     by_cases c25 : (wrap64 (d6 + x9_2)) > 65528
     ·rw [if_pos c25] at H
      have c25b0 : decide (65528 < (wrap64 (d6 + x9_2))) = true := decide_eq_true c25
      clear c25
      simp only [Option.some.injEq, Prod.mk.injEq] at H
      obtain ⟨rfl, rfl⟩ := H
      have hcz26_0 := cells_15 BK450.out
      have hfz26_0 := fun j_ => blk_frozen BK450.out j_
      go_wp2
      go_ret2
      exact ⟨_, kE, by first | exact Kd.S_nil _ _ _ _ _ | exact Kd.N_nil _ _ _ _ _ | exact Kd.V_nil _ _ _ _ _ | exact Kd.Q_nil _ _ _ _ _ | exact Kd.R_nil _ _ _ _ _, by exact kB1 HB.out GE450.out⟩
     rw [if_neg c25] at H
     have c25b0 : decide (65528 < (wrap64 (d6 + x9_2))) = false := decide_eq_false c25
     clear c25
     by_cases c27 : ((wrap64 ((d14.size : Int) - x9_2)) ≤ a1)
     ·rw [if_pos c27] at H
      have c27b0 : decide ((wrap64 ((d14.size : Int) - x9_2)) ≤ a1) = true := decide_eq_true c27
      clear c27
      replace H := iS H
      obtain ⟨c28, H⟩ := H
      have c28b0 := eq_true c28
      have c28b1 := decide_eq_true c28
      clear c28
      replace H := iS H
      obtain ⟨c29, H⟩ := H
      have c29b0 := eq_true c29
      have c29b1 := decide_eq_true c29
      replace H := iS H
      obtain ⟨c30, H⟩ := H
      have c30b0 := eq_true c30
      have c30b1 := decide_eq_true c30
      replace H := bS H
      obtain ⟨⟨t476, t477, t478, t479, t480, t481, t482, t483, t484, t485, t486, t487, t488, t489, t492⟩, A31, H⟩ := H
      try dsimp -simprocs only at H
      replace H := iS H
      obtain ⟨c32, H⟩ := H
      have LMc32 := As c32
      clear c32
      obtain ⟨y493, hy493⟩ : ∃ y_ : List (S28), y_ = (x8_2 ++ [(⟨t476, t477, t478, t479, t480, t481, t482, (⟨t483, t484, t485⟩ : S25), (⟨t486, t487, t488⟩ : S25), t489, t492⟩ : S28)]) := ⟨_, rfl⟩
      replace H : (if (wrap64 ((d14.size : Int) - x9_2)) ≤ a1 then (some (y493, 0)) else (intrusionref11_Split.l0 k2 a1 y493 (wrap64 (x9_2 + a1)) d0 d1 d2 d3 false d5 d6 d7 d8 d9 d10 d11 d12 l0_13 d14)) = some (r1, r2) := by first | (rw [hy493]; with_reducible exact H) | (have H2_ := (Option.bind_some _ _).symm.trans H; rw [hy493]; with_reducible exact H2_) | (have H2_ := (Option.bind_some _ _).symm.trans H; with_reducible exact H2_) | with_reducible exact H | (rw [hy493]; exact H) | exact H
      have Ny493 := As hy493
      clear hy493
      by_cases c33 : (wrap64 ((d14.size : Int) - x9_2)) ≤ a1
      ·rw [if_pos c33] at H
       have c33b0 : decide ((wrap64 ((d14.size : Int) - x9_2)) ≤ a1) = true := decide_eq_true c33
       clear c33
       simp only [Option.some.injEq, Prod.mk.injEq] at H
       obtain ⟨rfl, rfl⟩ := H
       have hcz34_0 := cells_15 BK450.out
       have hfz34_0 := fun j_ => blk_frozen BK450.out j_
       try go_wp2
       replace HO_8 := As (Kd.N_drew HO_8.out)
       replace BK450 := As (blk_drew BK450.out)
       replace HB := As (below_drew1 HB.out)
       refine start_ (n := 24) (S := fun w' => w'.cell? ⟨gb450, 0, none⟩ = some (.int .i64 d0) ∧ w'.cell? ⟨gb450, 1, none⟩ = some (.int .i64 d1) ∧ w'.cell? ⟨gb450, 2, none⟩ = some (.int .i64 d2) ∧ w'.cell? ⟨gb450, 3, none⟩ = some (.int .i64 d3) ∧ w'.cell? ⟨gb450, 4, none⟩ = some (.bool false) ∧ w'.cell? ⟨gb450, 5, none⟩ = some (.bool d5) ∧ w'.cell? ⟨gb450, 6, none⟩ = some (.int .i64 d6) ∧ w'.cell? ⟨gb450, 7, none⟩ = some (.bool d7) ∧ w'.cell? ⟨gb450, 8, none⟩ = some (.int .u64 d8) ∧ w'.cell? ⟨gb450, 9, none⟩ = some (.int .u64 d9) ∧ w'.cell? ⟨gb450, 10, none⟩ = some (.bool d10) ∧ w'.cell? ⟨gb450, 11, none⟩ = some (.int .u64 d11) ∧ w'.cell? ⟨gb450, 12, none⟩ = some (.int .u64 d12) ∧ w'.cell? ⟨gb450, 13, none⟩ = some (.slice A0_13 l0_13.length c0_13) ∧ w'.cell? ⟨gb450, 14, none⟩ = some (.string d14)) (ds := []) #[O, O, O, O, O, O, O, O, O, O, O, O, O, O, O, O, O, O, O, O, O, O, O, O] (by kernel_rfl) rfl rfl ⟨kC BK450.out 0, kC BK450.out 1, kC BK450.out 2, kC BK450.out 3, kC BK450.out 4, kC BK450.out 5, kC BK450.out 6, kC BK450.out 7, kC BK450.out 8, kC BK450.out 9, kC BK450.out 10, kC BK450.out 11, kC BK450.out 12, kC BK450.out 13, kC BK450.out 14⟩ (fun hHeld => ?_); refine with_tabW intrusionref11_Split.tab20 intrusionref11_Split.bits20 (fun HT_ HW_ => ?_)
       generalize wr.drew = w35 at HO_8 BK450 HB hHeld ⊢
       refine kP 0 72 #[I, O, O, O, O, O, O, O, O, O, O, O, O, O, O, O, O, O, O, O, O, O, O, O] ?_ (any_of HT_.out (by kernel_rfl))
       refine kP 2 74 #[I, O, I, O, O, O, O, O, O, O, O, O, O, O, O, O, O, O, O, O, O, O, O, O] ?_ (any_of HT_.out (by kernel_rfl))
       refine kP 4 76 #[I, O, I, O, I, O, O, O, O, O, O, O, O, O, O, O, O, O, O, O, O, O, O, O] ?_ (any_of HT_.out (by kernel_rfl))
       refine kP 5 77 #[I, O, I, O, I, I, O, O, O, O, O, O, O, O, O, O, O, O, O, O, O, O, O, O] ?_ (any_of HT_.out (by kernel_rfl))
       refine kP 6 78 #[I, O, I, O, I, I, I, O, O, O, O, O, O, O, O, O, O, O, O, O, O, O, O, O] ?_ (any_of HT_.out (by kernel_rfl))
       refine kP 7 79 #[I, O, I, O, I, I, I, I, O, O, O, O, O, O, O, O, O, O, O, O, O, O, O, O] ?_ (any_of HT_.out (by kernel_rfl))
       refine kP 9 81 #[I, O, I, O, I, I, I, I, O, I, O, O, O, O, O, O, O, O, O, O, O, O, O, O] ?_ (any_of HT_.out (by kernel_rfl))
       refine kP 11 83 #[I, O, I, O, I, I, I, I, O, I, O, I, O, O, O, O, O, O, O, O, O, O, O, O] ?_ (any_of HT_.out (by kernel_rfl))
       refine kP 13 85 #[I, O, I, O, I, I, I, I, O, I, O, I, O, I, O, O, O, O, O, O, O, O, O, O] ?_ (any_of HT_.out (by kernel_rfl))
       refine kP 14 86 #[I, O, I, O, I, I, I, I, O, I, O, I, O, I, I, O, O, O, O, O, O, O, O, O] ?_ (any_of HT_.out (by kernel_rfl))
       refine kP 15 87 #[I, O, I, O, I, I, I, I, O, I, O, I, O, I, I, I, O, O, O, O, O, O, O, O] ?_ (any_of HT_.out (by kernel_rfl))
       refine kP 16 88 #[I, O, I, O, I, I, I, I, O, I, O, I, O, I, I, I, I, O, O, O, O, O, O, O] ?_ (any_of HT_.out (by kernel_rfl))
       refine kP 19 91 #[I, O, I, O, I, I, I, I, O, I, O, I, O, I, I, I, I, O, O, I, O, O, O, O] ?_ (any_of HT_.out (by kernel_rfl))
       refine take_ (i := 1) (N := some 73) (v := ?_) (a' := ?_) #[I, I, I, O, I, I, I, I, O, I, O, I, O, I, I, I, I, O, O, I, O, O, O, O] rfl rfl (take_ofW HT_.out HW_.out (by kernel_rfl)) (fun _ _ _ h => h) (Or.inl ⟨by rfl, ?_⟩) hHeld ?_ ?_
       rotate_left
       ·rintro w' ⟨s0, s1, s2, s3, s4, s5, s6, s7, s8, s9, s10, s11, s12, s13, s14⟩
        go_simp
        with_reducible rfl
       rotate_left
       ·simp only [Act.put, sA, sZ, sS, i64_w, i32_w]
        rfl
       refine take_ (i := 3) (N := some 75) (v := ?_) (a' := ?_) #[I, I, I, I, I, I, I, I, O, I, O, I, O, I, I, I, I, O, O, I, O, O, O, O] rfl rfl (take_ofW HT_.out HW_.out (by kernel_rfl)) (fun _ _ _ h => h) (Or.inl ⟨by rfl, ?_⟩) hHeld ?_ ?_
       rotate_left
       ·rintro w' ⟨s0, s1, s2, s3, s4, s5, s6, s7, s8, s9, s10, s11, s12, s13, s14⟩
        go_simp
        with_reducible rfl
       rotate_left
       ·simp only [Act.put, sA, sZ, sS, i64_w, i32_w]
        rfl
       refine kP 8 80 #[I, I, I, I, I, I, I, I, I, I, O, I, O, I, I, I, I, O, O, I, O, O, O, O] ?_ (any_of HT_.out (by kernel_rfl))
       refine take_ (i := 10) (N := some 82) (v := ?_) (a' := ?_) #[I, I, I, I, I, I, I, I, I, I, I, I, O, I, I, I, I, O, O, I, O, O, O, O] rfl rfl (take_ofW HT_.out HW_.out (by kernel_rfl)) (fun _ _ _ h => h) (Or.inl ⟨by rfl, ?_⟩) hHeld ?_ ?_
       rotate_left
       ·rintro w' ⟨s0, s1, s2, s3, s4, s5, s6, s7, s8, s9, s10, s11, s12, s13, s14⟩
        go_simp
        with_reducible rfl
       rotate_left
       ·simp only [Act.put, sA, sZ, sS, i64_w, i32_w]
        rfl
       refine kP 12 84 #[I, I, I, I, I, I, I, I, I, I, I, I, I, I, I, I, I, O, O, I, O, O, O, O] ?_ (any_of HT_.out (by kernel_rfl))
       refine take_ (i := 17) (N := some 89) (v := ?_) (a' := ?_) #[I, I, I, I, I, I, I, I, I, I, I, I, I, I, I, I, I, I, O, I, O, O, O, O] rfl rfl (take_ofW HT_.out HW_.out (by kernel_rfl)) (fun _ _ _ h => h) (Or.inl ⟨by rfl, ?_⟩) hHeld ?_ ?_
       rotate_left
       ·rintro w' ⟨s0, s1, s2, s3, s4, s5, s6, s7, s8, s9, s10, s11, s12, s13, s14⟩
        go_simp
        with_reducible rfl
       rotate_left
       ·simp only [Act.put, sA, sZ, sS, i64_w, i32_w]
        rfl
       refine kP 18 90 #[I, I, I, I, I, I, I, I, I, I, I, I, I, I, I, I, I, I, I, I, O, O, O, O] ?_ (any_of HT_.out (by kernel_rfl))
       refine one_ (i := 20) (N := some 92) #[I, I, I, I, I, I, I, I, I, I, I, I, I, I, I, I, I, I, I, I, I, O, O, O] rfl rfl (one_of HT_.out (by kernel_rfl)) (by decide) (fun K hK => ?_)
       refine goes_ Try.func51 (by kernel_rfl) rfl #[.agg #[.int .i64 d0, .int .i64 d1, .int .i64 d2, .int .i64 d3, .bool false, .bool d5, .int .i64 d6, .bool d7, .int .u64 d8, .int .u64 d9, .bool d10, .int .u64 d11, .int .u64 d12, .slice A0_13 l0_13.length c0_13, .string d14], .string (d14.extract (x9_2 : Int).toNat ((wrap64 (x9_2 + (wrap64 ((d14.size : Int) - x9_2)))) : Int).toNat), .int .i64 (wrap64 (d6 + x9_2)), .bool d5, .int .i64 x9_2] (by rfl) rfl rfl kA ?_
       with_reducible refine (intrusionref11_copied.calls k2 d0 d1 d2 d3 false d5 d6 d7 d8 d9 d10 d11 d12 _ _ l0_13 d14 (d14.extract (x9_2 : Int).toNat ((wrap64 (x9_2 + (wrap64 ((d14.size : Int) - x9_2)))) : Int).toNat) (wrap64 (d6 + x9_2)) d5 x9_2 t476 t477 t478 t479 t480 t481 t482 t483 t484 t485 t486 t487 t488 t489 t492 _ ?side1 ?side2 A31.out).mono ?_
       (case side1 => repeat (first | exact (Kd.C_below HR0_13.out HB.out) | (with_reducible refine Kd.C_alloc ?_ _) | (with_reducible refine Kd.C_drewN ?_ _) | (with_reducible refine Kd.C_drew ?_)))
       (case side2 => exact HC0_13.out)
       rintro e w36 ⟨v490, rfl, ho0, hb⟩
       refine ⟨_, rfl, ?_⟩
       replace HO_8 := As (Kd.N_elder' (by (with_reducible repeat (first | apply Kd.N_alloc | apply Kd.N_drewN | apply Kd.N_drew)); exact HO_8.out) (Kd.R_base ho0) hb)
       have HO491 := As (Kd.R_lower (Kd.R_newM (M := fun k_ => (w.heap.size ≤ k_)) ho0 (below_size (kB1 HB.out GE450.out)) (fun k_ h_ => h_)) (below_size (kB1 HB.out GE450.out)))
       replace BK450 := As (blk_below (kb BK450.out) hb)
       replace HB := As (below_step (kB1 HB.out GE450.out) hb)
       (try clear hb)
       (try clear hb2)
       (try clear hk)
       (try clear hi)
       (try clear ho0)
       obtain ⟨Ao38, co38, eo38⟩ := Kd.R_slice HO491.out
       (first | subst eo38 | (injection eo38 with f1_ f2_ f3_; have f4_ := f1_.symm; have f5_ := f3_.symm; clear f1_ f2_ f3_; subst f4_; subst f5_))
       refine hK.out _ _ ⟨kC BK450.out 0, kC BK450.out 1, kC BK450.out 2, kC BK450.out 3, kC BK450.out 4, kC BK450.out 5, kC BK450.out 6, kC BK450.out 7, kC BK450.out 8, kC BK450.out 9, kC BK450.out 10, kC BK450.out 11, kC BK450.out 12, kC BK450.out 13, kC BK450.out 14⟩ (fun hHeld => ?_)
       clear hK K
       refine nP ?_
       refine one_ (i := 21) (N := some 93) #[I, I, I, I, I, I, I, I, I, I, I, I, I, I, I, I, I, I, I, I, I, I, O, O] rfl rfl (one_of HT_.out (by kernel_rfl)) (by decide) (fun K hK => ?_)
       refine value_ (w1 := ?_) (v := ?_) (by rfl) rfl ?_ ?_
       rotate_left 2
       ·go_simp
        constructor
        ·rfl
        rfl
       refine hK.out _ _ ⟨(blk_cell (blk_alloc BK450.out _) 0).trans rfl, (blk_cell (blk_alloc BK450.out _) 1).trans rfl, (blk_cell (blk_alloc BK450.out _) 2).trans rfl, (blk_cell (blk_alloc BK450.out _) 3).trans rfl, (blk_cell (blk_alloc BK450.out _) 4).trans rfl, (blk_cell (blk_alloc BK450.out _) 5).trans rfl, (blk_cell (blk_alloc BK450.out _) 6).trans rfl, (blk_cell (blk_alloc BK450.out _) 7).trans rfl, (blk_cell (blk_alloc BK450.out _) 8).trans rfl, (blk_cell (blk_alloc BK450.out _) 9).trans rfl, (blk_cell (blk_alloc BK450.out _) 10).trans rfl, (blk_cell (blk_alloc BK450.out _) 11).trans rfl, (blk_cell (blk_alloc BK450.out _) 12).trans rfl, (blk_cell (blk_alloc BK450.out _) 13).trans rfl, (blk_cell (blk_alloc BK450.out _) 14).trans rfl⟩ (fun hHeld => ?_)
       clear hK K
       refine nP ?_
       refine one_ (i := 22) (N := some 94) #[I, I, I, I, I, I, I, I, I, I, I, I, I, I, I, I, I, I, I, I, I, I, I, O] rfl rfl (one_of HT_.out (by kernel_rfl)) (by decide) (fun K hK => ?_)
       refine Kd.N_append_step k28 (w0 := w) w.heap.size (by rfl) (.tmp 72) (.tmp 93) 40 28 (.agg #[(.int .i64 0), (.int .i64 0), (.int .i64 0), (.int .i64 0), (.bool false), (.bool false), (.int .i64 0), (.bool false), (.int .u64 0), (.int .u64 0), (.bool false), (.int .u64 0), (.int .u64 0), (.slice none 0 0), (.string ⟨#[]⟩)]) 136 rfl Try.underlying40 info28 rfl (by decide) (by omega) u8 x8_2 (⟨t476, t477, t478, t479, t480, t481, t482, (⟨t483, t484, t485⟩ : S25), (⟨t486, t487, t488⟩ : S25), t489, t492⟩ : S28) [.int .i64 t476, .int .i64 t477, .int .i64 t478, .int .i64 t479, .bool t480, .bool t481, .int .i64 t482, .bool t483, .int .u64 t484, .int .u64 t485, .bool t486, .int .u64 t487, .int .u64 t488, .slice Ao38 t489.length co38, .string t492] (fun k_ => (w.heap.size ≤ k_) ∧ k_ ≠ gb450) (fun k_ => ((fun k_ => (w.heap.size ≤ k_) ∧ k_ ≠ gb450)) k_ ∧ some k_ ≠ (u8 : Value).ownBlock) rfl rfl ?aP (fun _ hk => hk) ?aF ?aO ?aB ?aS ?aL ?_
       (case aP => exact (k28_mkF _ _ (⟨t476, t477, t478, t479, t480, t481, t482, (⟨t483, t484, t485⟩ : S25), (⟨t486, t487, t488⟩ : S25), t489, t492⟩ : S28) (Kd.R_reads' (Kd.R_mono (ok' := (fun k_ => ((fun k_ => (w.heap.size ≤ k_) ∧ k_ ≠ gb450)) k_ ∧ some k_ ≠ (u8 : Value).ownBlock)) (Kd.R_types (Kd.R_apart' (HO491.out) (Kd.N_typed HO_8.out) (by decide)) BK450.out (by decide)) (fun k_ hk => ⟨⟨hk.1.1.1, hk.2⟩, hk.1.2⟩))).2.1 (Kd.R_F (Kd.R_mono (ok' := (fun k_ => ((fun k_ => (w.heap.size ≤ k_) ∧ k_ ≠ gb450)) k_ ∧ some k_ ≠ (u8 : Value).ownBlock)) (Kd.R_types (Kd.R_apart' (HO491.out) (Kd.N_typed HO_8.out) (by decide)) BK450.out (by decide)) (fun k_ hk => ⟨⟨hk.1.1.1, hk.2⟩, hk.1.2⟩)))))
       (case aB => exact (kB1 HB.out GE450.out))
       (case aF => exact (fun k_ hk => ⟨(Nat.le_trans (below_size (kB1 HB.out GE450.out)) hk), Kd.freshB (kb BK450.out) k_ hk⟩))
       (case aO => exact (by (with_reducible repeat (first | apply Kd.N_alloc | apply Kd.N_drewN | apply Kd.N_drew)); exact Kd.N_mono HO_8.out (fun _ hk => ⟨hk.1.1, hk.1.2⟩)))
       (case aS => exact (below_size (kB1 HB.out GE450.out)))
       (case aL => have := LMc32.out; omega)
       intro v494 w37 ho hb hg hat
       rw [← Ny493.out] at ho
       replace BK450 := As (blk_grown (kb BK450.out) hg (Kd.N_away HO_8.out (fun _ hk => hk.1.2)))
       replace HB := As (hb)
       have HO495 := As (ho)
       clear HO_8 HO491
       clear ho hb hg hat
       refine hK.out _ _ ⟨kC BK450.out 0, kC BK450.out 1, kC BK450.out 2, kC BK450.out 3, kC BK450.out 4, kC BK450.out 5, kC BK450.out 6, kC BK450.out 7, kC BK450.out 8, kC BK450.out 9, kC BK450.out 10, kC BK450.out 11, kC BK450.out 12, kC BK450.out 13, kC BK450.out 14⟩ (fun hHeld => ?_)
       clear hK K
       refine nP ?_
       refine kP 23 8 #[I, I, I, I, I, I, I, I, I, I, I, I, I, I, I, I, I, I, I, I, I, I, I, I] ?_ (any_of HT_.out (by kernel_rfl))
       refine done_ (done_of HT_.out (by kernel_rfl)) ?_
       try go_wp2
       go_ret2
       exact ⟨_, kE, by (with_reducible repeat (first | apply Kd.N_alloc | apply Kd.N_drewN | apply Kd.N_drew)); exact Kd.N_mono HO495.out (fun _ hk => hk.1), by exact kB1 HB.out GE450.out⟩
      exact absurd (of_decide_eq_true c27b0) c33
     rw [if_neg c27] at H
     have c27b0 : decide ((wrap64 ((d14.size : Int) - x9_2)) ≤ a1) = false := decide_eq_false c27
     clear c27
     replace H := iS H
     obtain ⟨c44, H⟩ := H
     have c44b0 := eq_true c44
     have c44b1 := decide_eq_true c44
     clear c44
     replace H := iS H
     obtain ⟨c45, H⟩ := H
     have c45b0 := eq_true c45
     have c45b1 := decide_eq_true c45
     replace H := iS H
     obtain ⟨c46, H⟩ := H
     have c46b0 := eq_true c46
     have c46b1 := decide_eq_true c46
     replace H := bS H
     obtain ⟨⟨t496, t497, t498, t499, t500, t501, t502, t503, t504, t505, t506, t507, t508, t509, t512⟩, A47, H⟩ := H
     try dsimp -simprocs only at H
     replace H := iS H
     obtain ⟨c48, H⟩ := H
     have LMc48 := As c48
     clear c48
     obtain ⟨y513, hy513⟩ : ∃ y_ : List (S28), y_ = (x8_2 ++ [(⟨t496, t497, t498, t499, t500, t501, t502, (⟨t503, t504, t505⟩ : S25), (⟨t506, t507, t508⟩ : S25), t509, t512⟩ : S28)]) := ⟨_, rfl⟩
     replace H : (if (wrap64 ((d14.size : Int) - x9_2)) ≤ a1 then (some (y513, 0)) else (intrusionref11_Split.l0 k2 a1 y513 (wrap64 (x9_2 + a1)) d0 d1 d2 d3 false d5 d6 d7 d8 d9 d10 d11 d12 l0_13 d14)) = some (r1, r2) := by first | (rw [hy513]; with_reducible exact H) | (have H2_ := (Option.bind_some _ _).symm.trans H; rw [hy513]; with_reducible exact H2_) | (have H2_ := (Option.bind_some _ _).symm.trans H; with_reducible exact H2_) | with_reducible exact H | (rw [hy513]; exact H) | exact H
     have Ny513 := As hy513
     clear hy513
     by_cases c49 : (wrap64 ((d14.size : Int) - x9_2)) ≤ a1
     ·exact absurd c49 (of_decide_eq_false c27b0)
     rw [if_neg c49] at H
     have c49b0 : decide ((wrap64 ((d14.size : Int) - x9_2)) ≤ a1) = false := decide_eq_false c49
     clear c49
     have H' := As H
     clear H
     have hcz55_0 := cells_15 BK450.out
     have hfz55_0 := fun j_ => blk_frozen BK450.out j_
     try go_wp2
     replace HO_8 := As (Kd.N_drew HO_8.out)
     replace BK450 := As (blk_drew BK450.out)
     replace HB := As (below_drew1 HB.out)
     refine start_ (n := 24) (S := fun w' => w'.cell? ⟨gb450, 0, none⟩ = some (.int .i64 d0) ∧ w'.cell? ⟨gb450, 1, none⟩ = some (.int .i64 d1) ∧ w'.cell? ⟨gb450, 2, none⟩ = some (.int .i64 d2) ∧ w'.cell? ⟨gb450, 3, none⟩ = some (.int .i64 d3) ∧ w'.cell? ⟨gb450, 4, none⟩ = some (.bool false) ∧ w'.cell? ⟨gb450, 5, none⟩ = some (.bool d5) ∧ w'.cell? ⟨gb450, 6, none⟩ = some (.int .i64 d6) ∧ w'.cell? ⟨gb450, 7, none⟩ = some (.bool d7) ∧ w'.cell? ⟨gb450, 8, none⟩ = some (.int .u64 d8) ∧ w'.cell? ⟨gb450, 9, none⟩ = some (.int .u64 d9) ∧ w'.cell? ⟨gb450, 10, none⟩ = some (.bool d10) ∧ w'.cell? ⟨gb450, 11, none⟩ = some (.int .u64 d11) ∧ w'.cell? ⟨gb450, 12, none⟩ = some (.int .u64 d12) ∧ w'.cell? ⟨gb450, 13, none⟩ = some (.slice A0_13 l0_13.length c0_13) ∧ w'.cell? ⟨gb450, 14, none⟩ = some (.string d14)) (ds := []) #[O, O, O, O, O, O, O, O, O, O, O, O, O, O, O, O, O, O, O, O, O, O, O, O] (by kernel_rfl) rfl rfl ⟨kC BK450.out 0, kC BK450.out 1, kC BK450.out 2, kC BK450.out 3, kC BK450.out 4, kC BK450.out 5, kC BK450.out 6, kC BK450.out 7, kC BK450.out 8, kC BK450.out 9, kC BK450.out 10, kC BK450.out 11, kC BK450.out 12, kC BK450.out 13, kC BK450.out 14⟩ (fun hHeld => ?_); refine with_tabW intrusionref11_Split.tab20 intrusionref11_Split.bits20 (fun HT_ HW_ => ?_)
     generalize wr.drew = w56 at HO_8 BK450 HB hHeld ⊢
     refine kP 0 72 #[I, O, O, O, O, O, O, O, O, O, O, O, O, O, O, O, O, O, O, O, O, O, O, O] ?_ (any_of HT_.out (by kernel_rfl))
     refine kP 2 74 #[I, O, I, O, O, O, O, O, O, O, O, O, O, O, O, O, O, O, O, O, O, O, O, O] ?_ (any_of HT_.out (by kernel_rfl))
     refine kP 4 76 #[I, O, I, O, I, O, O, O, O, O, O, O, O, O, O, O, O, O, O, O, O, O, O, O] ?_ (any_of HT_.out (by kernel_rfl))
     refine kP 5 77 #[I, O, I, O, I, I, O, O, O, O, O, O, O, O, O, O, O, O, O, O, O, O, O, O] ?_ (any_of HT_.out (by kernel_rfl))
     refine kP 6 78 #[I, O, I, O, I, I, I, O, O, O, O, O, O, O, O, O, O, O, O, O, O, O, O, O] ?_ (any_of HT_.out (by kernel_rfl))
     refine kP 7 79 #[I, O, I, O, I, I, I, I, O, O, O, O, O, O, O, O, O, O, O, O, O, O, O, O] ?_ (any_of HT_.out (by kernel_rfl))
     refine kP 9 81 #[I, O, I, O, I, I, I, I, O, I, O, O, O, O, O, O, O, O, O, O, O, O, O, O] ?_ (any_of HT_.out (by kernel_rfl))
     refine kP 11 83 #[I, O, I, O, I, I, I, I, O, I, O, I, O, O, O, O, O, O, O, O, O, O, O, O] ?_ (any_of HT_.out (by kernel_rfl))
     refine kP 13 85 #[I, O, I, O, I, I, I, I, O, I, O, I, O, I, O, O, O, O, O, O, O, O, O, O] ?_ (any_of HT_.out (by kernel_rfl))
     refine kP 14 86 #[I, O, I, O, I, I, I, I, O, I, O, I, O, I, I, O, O, O, O, O, O, O, O, O] ?_ (any_of HT_.out (by kernel_rfl))
     refine kP 15 87 #[I, O, I, O, I, I, I, I, O, I, O, I, O, I, I, I, O, O, O, O, O, O, O, O] ?_ (any_of HT_.out (by kernel_rfl))
     refine pure_ (i := 16) (N := some 88) (v := undef) (a' := ?_) #[I, O, I, O, I, I, I, I, O, I, O, I, O, I, I, I, I, O, O, O, O, O, O, O] rfl rfl (any_of HT_.out (by kernel_rfl)) (fun _ _ _ h => h) (Or.inr ⟨by rfl, rfl⟩) ?_ ?_
     rotate_left
     ·simp only [Act.put, sA, sZ, sS, i64_w, i32_w]
      rfl
     refine pure_ (i := 17) (N := some 89) (v := undef) (a' := ?_) #[I, O, I, O, I, I, I, I, O, I, O, I, O, I, I, I, I, I, O, O, O, O, O, O] rfl rfl (any_of HT_.out (by kernel_rfl)) (fun _ _ _ h => h) (Or.inr ⟨by rfl, rfl⟩) ?_ ?_
     rotate_left
     ·simp only [Act.put, sA, sZ, sS, i64_w, i32_w]
      rfl
     refine kP 18 90 #[I, O, I, O, I, I, I, I, O, I, O, I, O, I, I, I, I, I, I, O, O, O, O, O] ?_ (any_of HT_.out (by kernel_rfl))
     refine kP 19 91 #[I, O, I, O, I, I, I, I, O, I, O, I, O, I, I, I, I, I, I, I, O, O, O, O] ?_ (any_of HT_.out (by kernel_rfl))
     refine take_ (i := 1) (N := some 73) (v := ?_) (a' := ?_) #[I, I, I, O, I, I, I, I, O, I, O, I, O, I, I, I, I, I, I, I, O, O, O, O] rfl rfl (take_ofW HT_.out HW_.out (by kernel_rfl)) (fun _ _ _ h => h) (Or.inl ⟨by rfl, ?_⟩) hHeld ?_ ?_
     rotate_left
     ·rintro w' ⟨s0, s1, s2, s3, s4, s5, s6, s7, s8, s9, s10, s11, s12, s13, s14⟩
      go_simp
      with_reducible rfl
     rotate_left
     ·simp only [Act.put, sA, sZ, sS, i64_w, i32_w]
      rfl
     refine take_ (i := 3) (N := some 75) (v := ?_) (a' := ?_) #[I, I, I, I, I, I, I, I, O, I, O, I, O, I, I, I, I, I, I, I, O, O, O, O] rfl rfl (take_ofW HT_.out HW_.out (by kernel_rfl)) (fun _ _ _ h => h) (Or.inl ⟨by rfl, ?_⟩) hHeld ?_ ?_
     rotate_left
     ·rintro w' ⟨s0, s1, s2, s3, s4, s5, s6, s7, s8, s9, s10, s11, s12, s13, s14⟩
      go_simp
      with_reducible rfl
     rotate_left
     ·simp only [Act.put, sA, sZ, sS, i64_w, i32_w]
      rfl
     refine kP 8 80 #[I, I, I, I, I, I, I, I, I, I, O, I, O, I, I, I, I, I, I, I, O, O, O, O] ?_ (any_of HT_.out (by kernel_rfl))
     refine take_ (i := 10) (N := some 82) (v := ?_) (a' := ?_) #[I, I, I, I, I, I, I, I, I, I, I, I, O, I, I, I, I, I, I, I, O, O, O, O] rfl rfl (take_ofW HT_.out HW_.out (by kernel_rfl)) (fun _ _ _ h => h) (Or.inl ⟨by rfl, ?_⟩) hHeld ?_ ?_
     rotate_left
     ·rintro w' ⟨s0, s1, s2, s3, s4, s5, s6, s7, s8, s9, s10, s11, s12, s13, s14⟩
      go_simp
      with_reducible rfl
     rotate_left
     ·simp only [Act.put, sA, sZ, sS, i64_w, i32_w]
      rfl
     refine kP 12 84 #[I, I, I, I, I, I, I, I, I, I, I, I, I, I, I, I, I, I, I, I, O, O, O, O] ?_ (any_of HT_.out (by kernel_rfl))
     refine one_ (i := 20) (N := some 92) #[I, I, I, I, I, I, I, I, I, I, I, I, I, I, I, I, I, I, I, I, I, O, O, O] rfl rfl (one_of HT_.out (by kernel_rfl)) (by decide) (fun K hK => ?_)
     refine goes_ Try.func51 (by kernel_rfl) rfl #[.agg #[.int .i64 d0, .int .i64 d1, .int .i64 d2, .int .i64 d3, .bool false, .bool d5, .int .i64 d6, .bool d7, .int .u64 d8, .int .u64 d9, .bool d10, .int .u64 d11, .int .u64 d12, .slice A0_13 l0_13.length c0_13, .string d14], .string (d14.extract (x9_2 : Int).toNat ((wrap64 (x9_2 + a1)) : Int).toNat), .int .i64 (wrap64 (d6 + x9_2)), .bool true, .int .i64 x9_2] (by rfl) rfl rfl kA ?_
     with_reducible refine (intrusionref11_copied.calls k2 d0 d1 d2 d3 false d5 d6 d7 d8 d9 d10 d11 d12 _ _ l0_13 d14 (d14.extract (x9_2 : Int).toNat ((wrap64 (x9_2 + a1)) : Int).toNat) (wrap64 (d6 + x9_2)) true x9_2 t496 t497 t498 t499 t500 t501 t502 t503 t504 t505 t506 t507 t508 t509 t512 _ ?side1 ?side2 A47.out).mono ?_
     (case side1 => repeat (first | exact (Kd.C_below HR0_13.out HB.out) | (with_reducible refine Kd.C_alloc ?_ _) | (with_reducible refine Kd.C_drewN ?_ _) | (with_reducible refine Kd.C_drew ?_)))
     (case side2 => exact HC0_13.out)
     rintro e w57 ⟨v510, rfl, ho0, hb⟩
     refine ⟨_, rfl, ?_⟩
     replace HO_8 := As (Kd.N_elder' (by (with_reducible repeat (first | apply Kd.N_alloc | apply Kd.N_drewN | apply Kd.N_drew)); exact HO_8.out) (Kd.R_base ho0) hb)
     have HO511 := As (Kd.R_lower (Kd.R_newM (M := fun k_ => (w.heap.size ≤ k_)) ho0 (below_size (kB1 HB.out GE450.out)) (fun k_ h_ => h_)) (below_size (kB1 HB.out GE450.out)))
     replace BK450 := As (blk_below (kb BK450.out) hb)
     replace HB := As (below_step (kB1 HB.out GE450.out) hb)
     (try clear hb)
     (try clear hb2)
     (try clear hk)
     (try clear hi)
     (try clear ho0)
     obtain ⟨Ao59, co59, eo59⟩ := Kd.R_slice HO511.out
     (first | subst eo59 | (injection eo59 with f1_ f2_ f3_; have f4_ := f1_.symm; have f5_ := f3_.symm; clear f1_ f2_ f3_; subst f4_; subst f5_))
     refine hK.out _ _ ⟨kC BK450.out 0, kC BK450.out 1, kC BK450.out 2, kC BK450.out 3, kC BK450.out 4, kC BK450.out 5, kC BK450.out 6, kC BK450.out 7, kC BK450.out 8, kC BK450.out 9, kC BK450.out 10, kC BK450.out 11, kC BK450.out 12, kC BK450.out 13, kC BK450.out 14⟩ (fun hHeld => ?_)
     clear hK K
     refine nP ?_
     refine one_ (i := 21) (N := some 93) #[I, I, I, I, I, I, I, I, I, I, I, I, I, I, I, I, I, I, I, I, I, I, O, O] rfl rfl (one_of HT_.out (by kernel_rfl)) (by decide) (fun K hK => ?_)
     refine value_ (w1 := ?_) (v := ?_) (by rfl) rfl ?_ ?_
     rotate_left 2
     ·go_simp
      constructor
      ·rfl
      rfl
     refine hK.out _ _ ⟨(blk_cell (blk_alloc BK450.out _) 0).trans rfl, (blk_cell (blk_alloc BK450.out _) 1).trans rfl, (blk_cell (blk_alloc BK450.out _) 2).trans rfl, (blk_cell (blk_alloc BK450.out _) 3).trans rfl, (blk_cell (blk_alloc BK450.out _) 4).trans rfl, (blk_cell (blk_alloc BK450.out _) 5).trans rfl, (blk_cell (blk_alloc BK450.out _) 6).trans rfl, (blk_cell (blk_alloc BK450.out _) 7).trans rfl, (blk_cell (blk_alloc BK450.out _) 8).trans rfl, (blk_cell (blk_alloc BK450.out _) 9).trans rfl, (blk_cell (blk_alloc BK450.out _) 10).trans rfl, (blk_cell (blk_alloc BK450.out _) 11).trans rfl, (blk_cell (blk_alloc BK450.out _) 12).trans rfl, (blk_cell (blk_alloc BK450.out _) 13).trans rfl, (blk_cell (blk_alloc BK450.out _) 14).trans rfl⟩ (fun hHeld => ?_)
     clear hK K
     refine nP ?_
     refine one_ (i := 22) (N := some 94) #[I, I, I, I, I, I, I, I, I, I, I, I, I, I, I, I, I, I, I, I, I, I, I, O] rfl rfl (one_of HT_.out (by kernel_rfl)) (by decide) (fun K hK => ?_)
     refine Kd.N_append_step k28 (w0 := w) w.heap.size (by rfl) (.tmp 72) (.tmp 93) 40 28 (.agg #[(.int .i64 0), (.int .i64 0), (.int .i64 0), (.int .i64 0), (.bool false), (.bool false), (.int .i64 0), (.bool false), (.int .u64 0), (.int .u64 0), (.bool false), (.int .u64 0), (.int .u64 0), (.slice none 0 0), (.string ⟨#[]⟩)]) 136 rfl Try.underlying40 info28 rfl (by decide) (by omega) u8 x8_2 (⟨t496, t497, t498, t499, t500, t501, t502, (⟨t503, t504, t505⟩ : S25), (⟨t506, t507, t508⟩ : S25), t509, t512⟩ : S28) [.int .i64 t496, .int .i64 t497, .int .i64 t498, .int .i64 t499, .bool t500, .bool t501, .int .i64 t502, .bool t503, .int .u64 t504, .int .u64 t505, .bool t506, .int .u64 t507, .int .u64 t508, .slice Ao59 t509.length co59, .string t512] (fun k_ => (w.heap.size ≤ k_) ∧ k_ ≠ gb450) (fun k_ => ((fun k_ => (w.heap.size ≤ k_) ∧ k_ ≠ gb450)) k_ ∧ some k_ ≠ (u8 : Value).ownBlock) rfl rfl ?aP (fun _ hk => hk) ?aF ?aO ?aB ?aS ?aL ?_
     (case aP => exact (k28_mkF _ _ (⟨t496, t497, t498, t499, t500, t501, t502, (⟨t503, t504, t505⟩ : S25), (⟨t506, t507, t508⟩ : S25), t509, t512⟩ : S28) (Kd.R_reads' (Kd.R_mono (ok' := (fun k_ => ((fun k_ => (w.heap.size ≤ k_) ∧ k_ ≠ gb450)) k_ ∧ some k_ ≠ (u8 : Value).ownBlock)) (Kd.R_types (Kd.R_apart' (HO511.out) (Kd.N_typed HO_8.out) (by decide)) BK450.out (by decide)) (fun k_ hk => ⟨⟨hk.1.1.1, hk.2⟩, hk.1.2⟩))).2.1 (Kd.R_F (Kd.R_mono (ok' := (fun k_ => ((fun k_ => (w.heap.size ≤ k_) ∧ k_ ≠ gb450)) k_ ∧ some k_ ≠ (u8 : Value).ownBlock)) (Kd.R_types (Kd.R_apart' (HO511.out) (Kd.N_typed HO_8.out) (by decide)) BK450.out (by decide)) (fun k_ hk => ⟨⟨hk.1.1.1, hk.2⟩, hk.1.2⟩)))))
     (case aB => exact (kB1 HB.out GE450.out))
     (case aF => exact (fun k_ hk => ⟨(Nat.le_trans (below_size (kB1 HB.out GE450.out)) hk), Kd.freshB (kb BK450.out) k_ hk⟩))
     (case aO => exact (by (with_reducible repeat (first | apply Kd.N_alloc | apply Kd.N_drewN | apply Kd.N_drew)); exact Kd.N_mono HO_8.out (fun _ hk => ⟨hk.1.1, hk.1.2⟩)))
     (case aS => exact (below_size (kB1 HB.out GE450.out)))
     (case aL => have := LMc48.out; omega)
     intro v514 w58 ho hb hg hat
     rw [← Ny513.out] at ho
     replace BK450 := As (blk_grown (kb BK450.out) hg (Kd.N_away HO_8.out (fun _ hk => hk.1.2)))
     replace HB := As (hb)
     have HO515 := As (ho)
     clear HO_8 HO511
     clear ho hb hg hat
     refine hK.out _ _ ⟨kC BK450.out 0, kC BK450.out 1, kC BK450.out 2, kC BK450.out 3, kC BK450.out 4, kC BK450.out 5, kC BK450.out 6, kC BK450.out 7, kC BK450.out 8, kC BK450.out 9, kC BK450.out 10, kC BK450.out 11, kC BK450.out 12, kC BK450.out 13, kC BK450.out 14⟩ (fun hHeld => ?_)
     clear hK K
     refine nP ?_
     refine kP 23 8 #[I, I, I, I, I, I, I, I, I, I, I, I, I, I, I, I, I, I, I, I, I, I, I, I] ?_ (any_of HT_.out (by kernel_rfl))
     refine done_ (done_of HT_.out (by kernel_rfl)) ?_
     try go_wp2
     go_roundg k2
     case measure => have := HJ2.out; have := HK2.out; omega
     case rel => exact ⟨(y513), (wrap64 (x9_2 + a1)), kS, H', ⟨by have := HJ2.out; have := HK2.out; omega⟩, ⟨by (with_reducible repeat (first | apply Kd.N_alloc | apply Kd.N_drewN | apply Kd.N_drew)); exact HO515.out⟩, ⟨kb BK450.out⟩, ⟨kB1 HB.out GE450.out⟩⟩
    rw [if_neg c24] at H
    have c24b0 : decide (x9_2 < (d14.size : Int)) = false := decide_eq_false c24
    clear c24
    simp only [Option.some.injEq, Prod.mk.injEq] at H
    obtain ⟨rfl, rfl⟩ := H
    have hcz60_0 := cells_15 BK450.out
    have hfz60_0 := fun j_ => blk_frozen BK450.out j_
    go_wp2
    go_ret2
    exact ⟨_, kE, by (with_reducible repeat (first | apply Kd.N_alloc | apply Kd.N_drewN | apply Kd.N_drew)); exact Kd.N_mono HO_8.out (fun _ hk => hk.1), by exact kB1 HB.out GE450.out⟩
  rw [if_neg c8] at H
  have c8b0 : (t452 == 0) = false := beq_eq_false_iff_ne.mpr c8
  have c8b1 : (t452 != 0) = true := bne_iff_ne.mpr c8
  simp only [Option.some.injEq, Prod.mk.injEq] at H
  obtain ⟨rfl, rfl⟩ := H
  go_wp2_with (first | ((with_reducible refine gate_dst (N := 20) rfl ?_); (try (refine gate_guard (by rfl) ?_; dsimp only)); refine wpList_load_row rfl 28 _ rfl gb450 rfl 28 _ (0, 0) _ (kb BK450.out) Try.underlying28 rfl (by kernel_rfl) ?_) | ((with_reducible refine gate_callee (f := 16) rfl ?_); refine goesL_ (some 21) rfl rfl Try.func16 (by kernel_rfl) rfl #[.agg #[.int .i64 d0, .int .i64 d1, .int .i64 d2, .int .i64 d3, .bool d4, .bool d5, .int .i64 d6, .bool d7, .int .u64 d8, .int .u64 d9, .bool d10, .int .u64 d11, .int .u64 d12, .slice A0_13 l0_13.length c0_13, .string d14]] rfl kA ?_; (with_reducible refine (intrusionref11_Encode.calls kj2 d0 d1 d2 d3 d4 d5 d6 d7 d8 d9 d10 d11 d12 _ _ l0_13 d14 t451 t452 _ ?side1 ?side2 A7.out).mono ?_); (case side1 => repeat (first | exact (Kd.C_below HR0_13.out HB.out) | (with_reducible refine Kd.C_alloc ?_ _) | (with_reducible refine Kd.C_drewN ?_ _) | (with_reducible refine Kd.C_drew ?_))); (case side2 => exact HC0_13.out); rintro e w61 ⟨rfl, hb⟩; refine ⟨_, rfl, ?_⟩; replace BK450 := As (blk_below (kb BK450.out) hb); replace HB := As (below_step (kB1 HB.out GE450.out) hb); (try clear hb)))
  go_ret2
  exact ⟨_, kE, by first | exact Kd.S_nil _ _ _ _ _ | exact Kd.N_nil _ _ _ _ _ | exact Kd.V_nil _ _ _ _ _ | exact Kd.Q_nil _ _ _ _ _ | exact Kd.R_nil _ _ _ _ _, by exact kB1 HB.out GE450.out⟩

end Go.Proofs.Ytobioaommmgehaa.Z
-- short
-- short2
