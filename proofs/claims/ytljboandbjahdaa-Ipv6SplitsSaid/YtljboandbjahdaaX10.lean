/- What the functions of the translation that this claim's statement reaches compute, each proved by its walk. Written by xprint.py, a program of this claim's author, run over the kit's printer. -/
import Derived.Test.YtljboandbjahdaaX0
import Derived.Test.YtljboandbjahdaaX6
import Derived.Test.YtljboandbjahdaaX9
namespace Go.Proofs.Ytljboandbjahdaa.X
open Go.RowKit Go.Proofs.YtljboandbjahdaaW.PrintWords Go.Proofs.YtljboandbjahdaaW.PrintLast Go.Proofs.YtljboandbjahdaaW.PrintMore
attribute [local go_sem] max2_int min2_int max_two min_two max_three min_three max_four min_four   -- for this text's walks alone
set_option linter.unusedVariables false
set_option linter.unusedSimpArgs false

/-! ### ipv6_Split: function 17 -/
mutual
def ipv6_Split.j0 : Nat → Int → Int → Bool → Int → Int → Int → Int → Bool → Int → Int → Bool → Int → Int → List (S60) → Bool → Int → Int → Bool → ByteArray → Option ((List (S28)) × Int)
 | 0, _, _, _, _, _, _, _, _, _, _, _, _, _, _, _, _, _, _, _ => none
 | k + 1, x1, x2, x24, b0, b1, b2, b3, b4, b5, b6, b7, b8, b9, b10, b11, b12, b13, b14, b15 => if x24 = true then (some (([] : List (S28)), 4)) else (if b11 = true then (some (([] : List (S28)), 10)) else (ipv6_Split.l0 k x1 x2 ([] : List (S28)) 0 b0 b1 b2 b3 b4 b5 b6 b7 b8 b9 b10 b11 b12 b13 b14 b15))
def ipv6_Split.l0 : Nat → Int → Int → List (S28) → Int → Int → Int → Int → Int → Bool → Int → Int → Bool → Int → Int → List (S60) → Bool → Int → Int → Bool → ByteArray → Option ((List (S28)) × Int)
 | 0, _, _, _, _, _, _, _, _, _, _, _, _, _, _, _, _, _, _, _, _ => none
 | k + 1, x1, x2, x10, x11, b0, b1, b2, b3, b4, b5, b6, b7, b8, b9, b10, b11, b12, b13, b14, b15 => if x11 = 0 then (ipv6_Split.j2 k x1 x2 x10 x11 true b0 b1 b2 b3 b4 b5 b6 b7 b8 b9 b10 b11 b12 b13 b14 b15) else (ipv6_Split.j2 k x1 x2 x10 x11 (decide (x11 < (b15.size : Int))) b0 b1 b2 b3 b4 b5 b6 b7 b8 b9 b10 b11 b12 b13 b14 b15)
def ipv6_Split.j2 : Nat → Int → Int → List (S28) → Int → Bool → Int → Int → Int → Int → Bool → Int → Int → Bool → Int → Int → List (S60) → Bool → Int → Int → Bool → ByteArray → Option ((List (S28)) × Int)
 | 0, _, _, _, _, _, _, _, _, _, _, _, _, _, _, _, _, _, _, _, _, _ => none
 | k + 1, x1, x2, x10, x11, x49, b0, b1, b2, b3, b4, b5, b6, b7, b8, b9, b10, b11, b12, b13, b14, b15 => if x49 = true then (if x1 < (wrap64 ((b15.size : Int) - x11)) then (ipv6_Split.j3 k x1 x2 x10 x11 (wrap64 (x11 + x1)) b0 b1 b2 b3 b4 b5 b6 b7 b8 b9 b10 b11 b12 b13 b14 b15) else (ipv6_Split.j3 k x1 x2 x10 x11 (b15.size : Int) b0 b1 b2 b3 b4 b5 b6 b7 b8 b9 b10 b11 b12 b13 b14 b15)) else (some (x10, 0))
def ipv6_Split.j3 : Nat → Int → Int → List (S28) → Int → Int → Int → Int → Int → Int → Bool → Int → Int → Bool → Int → Int → List (S60) → Bool → Int → Int → Bool → ByteArray → Option ((List (S28)) × Int)
 | 0, _, _, _, _, _, _, _, _, _, _, _, _, _, _, _, _, _, _, _, _, _ => none
 | k + 1, x1, x2, x10, x11, x12, b0, b1, b2, b3, b4, b5, b6, b7, b8, b9, b10, b11, b12, b13, b14, b15 => (some (([] : List (S60)) : List (S60))).bind fun y278 => (if y278.length + b10.length < 5864062014805 then ((some (y278 ++ b10 : List (S60))).bind fun y281 => (if 0 ≤ x11 then (if x11 ≤ x12 then (if x12 ≤ (b15.size : Int) then ((ipv6_Encode.f k b0 b1 b2 b3 b4 b5 b6 b7 b8 b9 y281 true x2 x11 (decide (x12 < (b15.size : Int))) (b15.extract (x11 : Int).toNat (x12 : Int).toNat)).bind fun bt284 => (if bt284.2 = 0 then (if x10.length < 925904528653 then ((some (x10 ++ [(⟨b0, b1, b2, b3, (⟨b4, b5, b6⟩ : S25), (⟨b7, b8, b9⟩ : S25), y281, true, x2, x11, decide (x12 < (b15.size : Int)), b15.extract (x11 : Int).toNat (x12 : Int).toNat⟩ : S28)] : List (S28))).bind fun y286 => (if x12 = x11 then (some (y286, 0)) else (ipv6_Split.l0 k x1 x2 y286 x12 b0 b1 b2 b3 b4 b5 b6 b7 b8 b9 b10 b11 b12 b13 b14 b15))) else (none)) else (some (([] : List (S28)), bt284.2)))) else (none)) else (none)) else (none))) else (none))
end
def ipv6_Split.f (k : Nat) (d0 : Int) (d1 : Int) (d2 : Int) (d3 : Int) (d4 : Bool) (d5 : Int) (d6 : Int) (d7 : Bool) (d8 : Int) (d9 : Int) (l0_10 : List (S60)) (d11 : Bool) (d12 : Int) (d13 : Int) (d14 : Bool) (d15 : ByteArray) (a1 : Int) (a2 : Int) : Option ((List (S28)) × Int) := (ipv6_Encode.f k d0 d1 d2 d3 d4 d5 d6 d7 d8 d9 l0_10 d11 d12 d13 d14 d15).bind fun bt271 => (if bt271.2 = 0 then (if a1 < 1 then (ipv6_Split.j0 k a1 a2 true d0 d1 d2 d3 d4 d5 d6 d7 d8 d9 l0_10 d11 d12 d13 d14 d15) else (if (Int.tmod a1 8) = 0 then ((ipv6_within.f k 4294967295 (([a2] : List Int))).bind fun t276 => (ipv6_Split.j0 k a1 a2 (!t276) d0 d1 d2 d3 d4 d5 d6 d7 d8 d9 l0_10 d11 d12 d13 d14 d15)) else (ipv6_Split.j0 k a1 a2 true d0 d1 d2 d3 d4 d5 d6 d7 d8 d9 l0_10 d11 d12 d13 d14 d15))) else (some (([] : List (S28)), bt271.2)))
theorem ipv6_Split.mono_l : ∀ k, (∀ y0 y1 y2 y3 y4 y5 y6 y7 y8 y9 y10 y11 y12 y13 y14 y15 y16 y17 y18, LeO (ipv6_Split.j0 k y0 y1 y2 y3 y4 y5 y6 y7 y8 y9 y10 y11 y12 y13 y14 y15 y16 y17 y18) (ipv6_Split.j0 (k + 1) y0 y1 y2 y3 y4 y5 y6 y7 y8 y9 y10 y11 y12 y13 y14 y15 y16 y17 y18)) ∧ (∀ y0 y1 y2 y3 y4 y5 y6 y7 y8 y9 y10 y11 y12 y13 y14 y15 y16 y17 y18 y19, LeO (ipv6_Split.l0 k y0 y1 y2 y3 y4 y5 y6 y7 y8 y9 y10 y11 y12 y13 y14 y15 y16 y17 y18 y19) (ipv6_Split.l0 (k + 1) y0 y1 y2 y3 y4 y5 y6 y7 y8 y9 y10 y11 y12 y13 y14 y15 y16 y17 y18 y19)) ∧ (∀ y0 y1 y2 y3 y4 y5 y6 y7 y8 y9 y10 y11 y12 y13 y14 y15 y16 y17 y18 y19 y20, LeO (ipv6_Split.j2 k y0 y1 y2 y3 y4 y5 y6 y7 y8 y9 y10 y11 y12 y13 y14 y15 y16 y17 y18 y19 y20) (ipv6_Split.j2 (k + 1) y0 y1 y2 y3 y4 y5 y6 y7 y8 y9 y10 y11 y12 y13 y14 y15 y16 y17 y18 y19 y20)) ∧ (∀ y0 y1 y2 y3 y4 y5 y6 y7 y8 y9 y10 y11 y12 y13 y14 y15 y16 y17 y18 y19 y20, LeO (ipv6_Split.j3 k y0 y1 y2 y3 y4 y5 y6 y7 y8 y9 y10 y11 y12 y13 y14 y15 y16 y17 y18 y19 y20) (ipv6_Split.j3 (k + 1) y0 y1 y2 y3 y4 y5 y6 y7 y8 y9 y10 y11 y12 y13 y14 y15 y16 y17 y18 y19 y20))
 | 0 => ⟨fun _ _ _ _ _ _ _ _ _ _ _ _ _ _ _ _ _ _ _ r h => by simp [ipv6_Split.j0] at h, fun _ _ _ _ _ _ _ _ _ _ _ _ _ _ _ _ _ _ _ _ r h => by simp [ipv6_Split.l0] at h, fun _ _ _ _ _ _ _ _ _ _ _ _ _ _ _ _ _ _ _ _ _ r h => by simp [ipv6_Split.j2] at h, fun _ _ _ _ _ _ _ _ _ _ _ _ _ _ _ _ _ _ _ _ _ r h => by simp [ipv6_Split.j3] at h⟩
 | k + 1 => by
  obtain ⟨ih0, ih1, ih2, ih3⟩ := ipv6_Split.mono_l k
  refine ⟨?_, ?_, ?_, ?_⟩
  ·intro y0 y1 y2 y3 y4 y5 y6 y7 y8 y9 y10 y11 y12 y13 y14 y15 y16 y17 y18
   unfold ipv6_Split.j0
   repeat' first | with_reducible first | apply ih0 | apply ih1 | apply ih2 | apply ih3 | apply ipv6_Encode.mono | apply ipv6_within.mono | apply LeO.refl | apply LeO.none | refine LeO.ite ?_ ?_ | refine LeO.bind ?_ (fun _ => ?_)
  ·intro y0 y1 y2 y3 y4 y5 y6 y7 y8 y9 y10 y11 y12 y13 y14 y15 y16 y17 y18 y19
   unfold ipv6_Split.l0
   repeat' first | with_reducible first | apply ih0 | apply ih1 | apply ih2 | apply ih3 | apply ipv6_Encode.mono | apply ipv6_within.mono | apply LeO.refl | apply LeO.none | refine LeO.ite ?_ ?_ | refine LeO.bind ?_ (fun _ => ?_)
  ·intro y0 y1 y2 y3 y4 y5 y6 y7 y8 y9 y10 y11 y12 y13 y14 y15 y16 y17 y18 y19 y20
   unfold ipv6_Split.j2
   repeat' first | with_reducible first | apply ih0 | apply ih1 | apply ih2 | apply ih3 | apply ipv6_Encode.mono | apply ipv6_within.mono | apply LeO.refl | apply LeO.none | refine LeO.ite ?_ ?_ | refine LeO.bind ?_ (fun _ => ?_)
  intro y0 y1 y2 y3 y4 y5 y6 y7 y8 y9 y10 y11 y12 y13 y14 y15 y16 y17 y18 y19 y20
  unfold ipv6_Split.j3
  repeat' first | with_reducible first | apply ih0 | apply ih1 | apply ih2 | apply ih3 | apply ipv6_Encode.mono | apply ipv6_within.mono | apply LeO.refl | apply LeO.none | refine LeO.ite ?_ ?_ | refine LeO.bind ?_ (fun _ => ?_)
theorem ipv6_Split.mono : ∀ a0 a1 a2 a3 a4 a5 a6 a7 a8 a9 a10 a11 a12 a13 a14 a15 a16 a17 k, LeO (ipv6_Split.f k a0 a1 a2 a3 a4 a5 a6 a7 a8 a9 a10 a11 a12 a13 a14 a15 a16 a17) (ipv6_Split.f (k + 1) a0 a1 a2 a3 a4 a5 a6 a7 a8 a9 a10 a11 a12 a13 a14 a15 a16 a17) := by
 intro a0 a1 a2 a3 a4 a5 a6 a7 a8 a9 a10 a11 a12 a13 a14 a15 a16 a17 k
 obtain ⟨ih0, ih1, ih2, ih3⟩ := ipv6_Split.mono_l k
 unfold ipv6_Split.f
 repeat' first | with_reducible first | apply ih0 | apply ih1 | apply ih2 | apply ih3 | apply ipv6_Encode.mono | apply ipv6_within.mono | apply LeO.refl | apply LeO.none | refine LeO.ite ?_ ?_ | refine LeO.bind ?_ (fun _ => ?_)
def ipv6_Split.T16 : Bool × List (List Nat × List Nat) := (true, [([], []), ([], []), ([], []), ([], []), ([3], [3]), ([4], [4]), ([2, 5], [2, 5]), ([], []), ([7], [7]), ([], []), ([], []), ([8, 9, 10], [8, 9, 10]), ([], []), ([12], [12]), ([0, 12, 13], []), ([14, 0, 13, 0, 12, 13], [0, 14]), ([0, 1, 12, 13, 14, 15], []), ([16, 1, 15, 0, 1, 12, 13, 14, 15], [1, 16]), ([0, 1, 2, 3, 4, 5, 6, 12, 13, 14, 15, 16, 17], []), ([18, 6, 17, 0, 1, 2, 3, 4, 5, 6, 12, 13, 14, 15, 16, 17], [6, 18]), ([0, 1, 2, 3, 4, 5, 6, 7, 8, 9, 10, 11, 12, 13, 14, 15, 16, 17, 18, 19], []), ([20, 11, 19, 0, 1, 2, 3, 4, 5, 6, 7, 8, 9, 10, 11, 12, 13, 14, 15, 16, 17, 18, 19], [11, 20])])
def ipv6_Split.B16 : List Nat := [0, 0, 0, 0, 8, 24, 60, 0, 128, 0, 0, 1920, 0, 4096, 12289, 28673, 61443, 126979, 258175, 520319, 1048575, 2097151]
theorem ipv6_Split.tab16 : rtab .any (opsOf Try.f17 16) = ipv6_Split.T16 := by kernel_rfl
theorem ipv6_Split.bits16 : waitsOk ipv6_Split.T16.2 ipv6_Split.B16 = true := by kernel_rfl
set_option maxHeartbeats 8000000 in
set_option maxRecDepth 100000 in
theorem ipv6_Split.calls (k : Nat) (d0 : Int) (d1 : Int) (d2 : Int) (d3 : Int) (d4 : Bool) (d5 : Int) (d6 : Int) (d7 : Bool) (d8 : Int) (d9 : Int) (A0_10 : Option Addr) (c0_10 : Nat) (l0_10 : List (S60)) (d11 : Bool) (d12 : Int) (d13 : Int) (d14 : Bool) (d15 : ByteArray) (a1 : Int) (a2 : Int) (r1 : List (S28)) (r2 : Int) (w : World) (hr0_10 : Kd.C k60 w A0_10 l0_10.length l0_10) (hc0_10 : l0_10.length ≤ c0_10) (h : ipv6_Split.f k d0 d1 d2 d3 d4 d5 d6 d7 d8 d9 l0_10 d11 d12 d13 d14 d15 a1 a2 = some (r1, r2)) :
  Calls Try.prog 17 #[.agg #[.int .i64 d0, .int .i64 d1, .int .i64 d2, .int .i64 d3, .bool d4, .int .u64 d5, .int .u64 d6, .bool d7, .int .u64 d8, .int .u64 d9, .slice A0_10 l0_10.length c0_10, .bool d11, .int .i64 d12, .int .i64 d13, .bool d14, .string d15], .int .i64 a1, .int .i64 a2] w fun e w' => ∃ v0_ : Value, e = .returned (.tuple #[v0_, .int .i64 r2]) ∧ Kd.S k28 28 w' w.heap.size (fun _ => True) v0_ r1 ∧ Below w.heap.size w w' := by
 have hu28 := Try.underlying28
 have HR0_10 := As hr0_10
 have HC0_10 := As hc0_10
 clear hr0_10 hc0_10
 have HB := As (Below.refl w.heap.size w)
 have H : ((ipv6_Encode.f k d0 d1 d2 d3 d4 d5 d6 d7 d8 d9 l0_10 d11 d12 d13 d14 d15).bind fun bt271 => (if bt271.2 = 0 then (if a1 < 1 then (ipv6_Split.j0 k a1 a2 true d0 d1 d2 d3 d4 d5 d6 d7 d8 d9 l0_10 d11 d12 d13 d14 d15) else (if (Int.tmod a1 8) = 0 then ((ipv6_within.f k 4294967295 (([a2] : List Int))).bind fun t276 => (ipv6_Split.j0 k a1 a2 (!t276) d0 d1 d2 d3 d4 d5 d6 d7 d8 d9 l0_10 d11 d12 d13 d14 d15)) else (ipv6_Split.j0 k a1 a2 true d0 d1 d2 d3 d4 d5 d6 d7 d8 d9 l0_10 d11 d12 d13 d14 d15))) else (some (([] : List (S28)), bt271.2)))) = some (r1, r2) := h
 clear h
 replace H := Option.bind_eq_some_iff.mp H
 obtain ⟨⟨t271, t272⟩, A40, H⟩ := H
 replace H : (if t272 = 0 then (if a1 < 1 then (ipv6_Split.j0 k a1 a2 true d0 d1 d2 d3 d4 d5 d6 d7 d8 d9 l0_10 d11 d12 d13 d14 d15) else (if (Int.tmod a1 8) = 0 then ((ipv6_within.f k 4294967295 (([a2] : List Int))).bind fun t276 => (ipv6_Split.j0 k a1 a2 (!t276) d0 d1 d2 d3 d4 d5 d6 d7 d8 d9 l0_10 d11 d12 d13 d14 d15)) else (ipv6_Split.j0 k a1 a2 true d0 d1 d2 d3 d4 d5 d6 d7 d8 d9 l0_10 d11 d12 d13 d14 d15))) else (some (([] : List (S28)), t272))) = some (r1, r2) := H
 have A4 := As A40
 clear A40
 by_cases c5 : t272 = 0
 ·rw [if_pos c5] at H
  have c5b0 : (t272 == 0) = true := beq_iff_eq.mpr c5
  have c5b1 : (t272 != 0) = false := bne_eq_false_iff_eq.mpr c5
  clear c5
  have HC6 := As H
  clear H
  go_enter Try.func17, Try.ntmps17
  go_upto_region 4 with (first | ((with_reducible refine gate_dst (N := 3) rfl ?_); (try (refine gate_guard (by rfl) ?_; dsimp only)); refine box_event rfl (N := 3) rfl (cs := #[.int .i64 d0, .int .i64 d1, .int .i64 d2, .int .i64 d3, .bool d4, .int .u64 d5, .int .u64 d6, .bool d7, .int .u64 d8, .int .u64 d9, .slice A0_10 l0_10.length c0_10, .bool d11, .int .i64 d12, .int .i64 d13, .bool d14, .string d15]) (t := 28) kG ?_; intro gb270 hg w7 hbox hb; have BK270 := As (hbox); have GW270 := As ((by rw [hg]; exact (below_size (kB HB.out)) : w.heap.size ≤ gb270)); have GE270 := As ((by rw [hg]; exact (below_size (kB HB.out)) : w.heap.size ≤ gb270)); replace HB := As (below_step (kB HB.out) hb); clear hb hbox hg) | ((with_reducible refine gate_dst (N := 17) rfl ?_); (try (refine gate_guard (by rfl) ?_; dsimp only)); refine wpList_load_row rfl 28 _ rfl gb270 rfl 28 _ (0, 0) _ (kb BK270.out) Try.underlying28 rfl (by kernel_rfl) ?_) | ((with_reducible refine gate_callee (f := 15) rfl ?_); refine goesL_ (some 18) rfl rfl Try.func15 (by kernel_rfl) rfl #[.agg #[.int .i64 d0, .int .i64 d1, .int .i64 d2, .int .i64 d3, .bool d4, .int .u64 d5, .int .u64 d6, .bool d7, .int .u64 d8, .int .u64 d9, .slice A0_10 l0_10.length c0_10, .bool d11, .int .i64 d12, .int .i64 d13, .bool d14, .string d15]] rfl kA ?_; (with_reducible refine (ipv6_Encode.calls k d0 d1 d2 d3 d4 d5 d6 d7 d8 d9 _ _ l0_10 d11 d12 d13 d14 d15 t271 t272 _ ?side1 ?side2 A4.out).mono ?_); (case side1 => repeat (first | exact (Kd.C_below HR0_10.out HB.out) | (with_reducible refine Kd.C_alloc ?_ _) | (with_reducible refine Kd.C_drewN ?_ _) | (with_reducible refine Kd.C_drew ?_))); (case side2 => exact HC0_10.out); rintro e w8 ⟨rfl, hb⟩; refine ⟨_, rfl, ?_⟩; replace BK270 := As (blk_below (kb BK270.out) hb); replace HB := As (below_step (kB1 HB.out GE270.out) hb); (try clear hb)))
  (try simp only [Act.put, sA, sZ, sS])
  go_cut [24] (fun v24 wc => ∃ (kq : Nat) (x24_5 : Bool), v24 = .bool x24_5 ∧ Aside0 (ipv6_Split.j0 kq a1 a2 x24_5 d0 d1 d2 d3 d4 d5 d6 d7 d8 d9 l0_10 d11 d12 d13 d14 d15 = some (r1, r2)) ∧ Aside0 (kq ≤ k) ∧ Aside0 (wc.heap[gb270]? = some (.cells #[.int .i64 d0, .int .i64 d1, .int .i64 d2, .int .i64 d3, .bool d4, .int .u64 d5, .int .u64 d6, .bool d7, .int .u64 d8, .int .u64 d9, (.slice A0_10 l0_10.length c0_10), .bool d11, .int .i64 d12, .int .i64 d13, .bool d14, .string d15] 28 (0, 0))) ∧ Aside0 (Below w.heap.size w wc))
  case first =>
   have H := HC6.out
   clear HC6
   by_cases c9 : a1 < 1
   ·rw [if_pos c9] at H
    have c9b0 : decide (a1 < 1) = true := decide_eq_true c9
    clear c9
    (first | rw [c9b0] | (simp only [i64_w, i32_w]; rw [c9b0]) | skip)
    have H' := As H
    clear H
    go_wp2
    go_meet
    case rel => exact ⟨_, (true), kS, H', ⟨by first | omega | exact Nat.le_refl _⟩, ⟨kb BK270.out⟩, ⟨kB1 HB.out GE270.out⟩⟩
   rw [if_neg c9] at H
   have c9b0 : decide (a1 < 1) = false := decide_eq_false c9
   clear c9
   (first | rw [c9b0] | (simp only [i64_w, i32_w]; rw [c9b0]) | skip)
   by_cases c10 : (Int.tmod a1 8) = 0
   ·rw [if_pos c10] at H
    have c10b0 : ((Int.tmod a1 8) == 0) = true := beq_iff_eq.mpr c10
    have c10b1 : ((Int.tmod a1 8) != 0) = false := bne_eq_false_iff_eq.mpr c10
    clear c10
    obtain ⟨y273, hy273⟩ : ∃ y_ : List Int, y_ = (([a2] : List Int)) := ⟨_, rfl⟩
    replace H : ((ipv6_within.f k 4294967295 y273).bind fun t276 => (ipv6_Split.j0 k a1 a2 (!t276) d0 d1 d2 d3 d4 d5 d6 d7 d8 d9 l0_10 d11 d12 d13 d14 d15)) = some (r1, r2) := by first | (rw [hy273]; with_reducible exact H) | (have H2_ := (Option.bind_some _ _).symm.trans H; rw [hy273]; with_reducible exact H2_) | (have H2_ := (Option.bind_some _ _).symm.trans H; with_reducible exact H2_) | with_reducible exact H | (rw [hy273]; exact H) | exact H
    have Ny273 := As hy273
    clear hy273
    replace H := Option.bind_eq_some_iff.mp H
    obtain ⟨t276, A110, H⟩ := H
    replace H : (ipv6_Split.j0 k a1 a2 (!t276) d0 d1 d2 d3 d4 d5 d6 d7 d8 d9 l0_10 d11 d12 d13 d14 d15) = some (r1, r2) := H
    have A11 := As A110
    clear A110
    have H' := As H
    clear H
    go_wp2_with (first | ((with_reducible refine gate_dst (N := 34) rfl ?_); (try (refine gate_guard (by rfl) ?_; dsimp only)); refine Kd.R_lit (Kd.int .i64) _ 3 rfl (N := 34) rfl (xs := ([a2] : List Int)) (inner := [.int .i64 a2]) (ok := fun _ => True) (okp := fun _ => True) kG ?hp (fun _ hk => hk) trivial (Below.refl _ _) (Nat.le_refl _) (by simp) ?_; (case hp => exact (Reps.one (show Kd.M (Kd.int .i64) _ _ _ a2 [.int .i64 a2] from rfl) (Reps.none _ _))); intro v274 w12 ho13 hb hg_ hnew_; clear hg_ hnew_; (first | rw [← Ny273.out] at ho13 | (simp only [Int.reduceToNat] at ho13; rw [← Ny273.out] at ho13)); have HO275 := As (Kd.R_lower ho13 (below_size (kB1 HB.out GE270.out))); replace BK270 := As (blk_below (kb BK270.out) hb); replace HB := As (below_step (kB1 HB.out GE270.out) hb); clear hb ho13; obtain ⟨Ao14, co14, eo14⟩ := Kd.R_slice HO275.out; subst eo14) | (go_at_call 40; (with_reducible refine (ipv6_within.calls k 4294967295 _ _ y273 t276 _ ?side1 ?side2 A11.out).mono ?_); (case side1 => repeat (first | exact (Kd.R_reads' HO275.out).2.2 | (with_reducible refine Kd.C_alloc ?_ _) | (with_reducible refine Kd.C_drewN ?_ _) | (with_reducible refine Kd.C_drew ?_))); (case side2 => exact (Kd.R_reads' HO275.out).2.1); rintro e w' ⟨rfl, ⟨nd, rfl⟩⟩))
    go_meet
    case rel => exact ⟨_, (!t276), kS, H', ⟨by first | omega | exact Nat.le_refl _⟩, ⟨kb BK270.out⟩, ⟨kB1 HB.out GE270.out⟩⟩
   rw [if_neg c10] at H
   have c10b0 : ((Int.tmod a1 8) == 0) = false := beq_eq_false_iff_ne.mpr c10
   have c10b1 : ((Int.tmod a1 8) != 0) = true := bne_iff_ne.mpr c10
   have H' := As H
   clear H
   go_wp2
   go_meet
   case rel => exact ⟨_, (true), kS, H', ⟨by first | omega | exact Nat.le_refl _⟩, ⟨kb BK270.out⟩, ⟨kB1 HB.out GE270.out⟩⟩
  clear HC6
  try clear c5
  try clear c5b0
  try clear c5b1
  obtain ⟨kq, x24_5, rfl, HA, HJ5, BK270, HB⟩ := hcut
  cases kq with
  | zero => exact absurd HA.out (by simp [ipv6_Split.j0])
  | succ kj5 =>
   have H := HA.out
   clear HA
   simp only [ipv6_Split.j0] at H
   by_cases c15 : x24_5 = true
   ·subst c15
    have H1 : (some (([] : List (S28)), 4)) = some (r1, r2) := by rw [if_pos rfl] at H; exact H
    clear H
    have H := H1
    clear H1
    simp only [Option.some.injEq, Prod.mk.injEq] at H
    obtain ⟨rfl, rfl⟩ := H
    go_wp2
    go_ret2
    exact ⟨_, kE, by first | exact Kd.S_nil _ _ _ _ _ | exact Kd.N_nil _ _ _ _ _ | exact Kd.V_nil _ _ _ _ _ | exact Kd.Q_nil _ _ _ _ _ | exact Kd.R_nil _ _ _ _ _, by exact kB1 HB.out GE270.out⟩
   replace c15 := Bool.eq_false_iff.mpr c15
   subst c15
   have H1 : (if d11 = true then (some (([] : List (S28)), 10)) else (ipv6_Split.l0 kj5 a1 a2 ([] : List (S28)) 0 d0 d1 d2 d3 d4 d5 d6 d7 d8 d9 l0_10 d11 d12 d13 d14 d15)) = some (r1, r2) := by rw [if_neg (show ¬ (false = true) by decide)] at H; exact H
   clear H
   have H := H1
   clear H1
   by_cases c16 : d11 = true
   ·subst c16
    have H1 : (some (([] : List (S28)), 10)) = some (r1, r2) := by rw [if_pos rfl] at H; exact H
    clear H
    have H := H1
    clear H1
    simp only [Option.some.injEq, Prod.mk.injEq] at H
    obtain ⟨rfl, rfl⟩ := H
    have hcz17_0 := cells_16 BK270.out
    have hfz17_0 := fun j_ => blk_frozen BK270.out j_
    go_wp2
    go_ret2
    exact ⟨_, kE, by first | exact Kd.S_nil _ _ _ _ _ | exact Kd.N_nil _ _ _ _ _ | exact Kd.V_nil _ _ _ _ _ | exact Kd.Q_nil _ _ _ _ _ | exact Kd.R_nil _ _ _ _ _, by exact kB1 HB.out GE270.out⟩
   replace c16 := Bool.eq_false_iff.mpr c16
   subst c16
   have H1 : (ipv6_Split.l0 kj5 a1 a2 ([] : List (S28)) 0 d0 d1 d2 d3 d4 d5 d6 d7 d8 d9 l0_10 false d12 d13 d14 d15) = some (r1, r2) := by rw [if_neg (show ¬ (false = true) by decide)] at H; exact H
   clear H
   have H := H1
   clear H1
   have H' := As H
   clear H
   have hcz18_0 := cells_16 BK270.out
   have hfz18_0 := fun j_ => blk_frozen BK270.out j_
   go_wp2
   go_loopg [10, 11] kj5 (fun kq v10 v11 w' => ∃ (x10_2 : List (S28)) (x11_2 : Int), v11 = .int .i64 x11_2 ∧ Aside0 (ipv6_Split.l0 kq a1 a2 x10_2 x11_2 d0 d1 d2 d3 d4 d5 d6 d7 d8 d9 l0_10 false d12 d13 d14 d15 = some (r1, r2)) ∧ Aside0 (kq ≤ kj5) ∧ Aside0 (Kd.S k28 28 w' w.heap.size (fun k_ => k_ ≠ gb270) v10 x10_2) ∧ Aside0 (w'.heap[gb270]? = some (.cells #[.int .i64 d0, .int .i64 d1, .int .i64 d2, .int .i64 d3, .bool d4, .int .u64 d5, .int .u64 d6, .bool d7, .int .u64 d8, .int .u64 d9, (.slice A0_10 l0_10.length c0_10), .bool false, .int .i64 d12, .int .i64 d13, .bool d14, .string d15] 28 (0, 0))) ∧ Aside0 (Below w.heap.size w w'))
   case atStart => exact ⟨(([] : List (S28))), (0), kS, H', ⟨Nat.le_refl _⟩, ⟨by first | exact Kd.S_nil _ _ _ _ _ | exact Kd.N_nil _ _ _ _ _ | exact Kd.V_nil _ _ _ _ _ | exact Kd.Q_nil _ _ _ _ _ | exact Kd.R_nil _ _ _ _ _⟩, ⟨kb BK270.out⟩, ⟨kB1 HB.out GE270.out⟩⟩
   clear H'
   try clear c15
   try clear c16
   try clear hcz18_0
   try clear hfz18_0
   obtain ⟨x10_2, x11_2, rfl, HA, HK2, HO_10, BK270, HB⟩ := hrel
   cases gk with
   | zero => exact absurd HA.out (by simp [ipv6_Split.l0])
   | succ k2 =>
    have H := HA.out
    clear HA
    simp only [ipv6_Split.l0] at H
    have HC19 := As H
    clear H
    go_upto_region 10 with (fail)
    go_cut [49] (fun v49 wc => ∃ (kq : Nat) (x49_18 : Bool), v49 = .bool x49_18 ∧ Aside0 (ipv6_Split.j2 kq a1 a2 x10_2 x11_2 x49_18 d0 d1 d2 d3 d4 d5 d6 d7 d8 d9 l0_10 false d12 d13 d14 d15 = some (r1, r2)) ∧ Aside0 (kq ≤ k2) ∧ Aside0 (Kd.S k28 28 wc w.heap.size (fun k_ => k_ ≠ gb270) u10 x10_2) ∧ Aside0 (wc.heap[gb270]? = some (.cells #[.int .i64 d0, .int .i64 d1, .int .i64 d2, .int .i64 d3, .bool d4, .int .u64 d5, .int .u64 d6, .bool d7, .int .u64 d8, .int .u64 d9, (.slice A0_10 l0_10.length c0_10), .bool false, .int .i64 d12, .int .i64 d13, .bool d14, .string d15] 28 (0, 0))) ∧ Aside0 (Below w.heap.size w wc))
    case first =>
     have H := HC19.out
     clear HC19
     by_cases c20 : x11_2 = 0
     ·rw [if_pos c20] at H
      have c20b0 : (x11_2 == 0) = true := beq_iff_eq.mpr c20
      have c20b1 : (x11_2 != 0) = false := bne_eq_false_iff_eq.mpr c20
      clear c20
      (first | rw [c20b0] | (simp only [i64_w, i32_w]; rw [c20b0]) | skip)
      have H' := As H
      clear H
      go_wp2
      go_meet
      case rel => exact ⟨_, (true), kS, H', ⟨by have := HJ5.out; have := HK2.out; first | omega | exact Nat.le_refl _⟩, ⟨by (with_reducible repeat (first | apply Kd.S_alloc | apply Kd.S_drewN | apply Kd.S_drew)); exact HO_10.out⟩, ⟨kb BK270.out⟩, ⟨kB1 HB.out GE270.out⟩⟩
     rw [if_neg c20] at H
     have c20b0 : (x11_2 == 0) = false := beq_eq_false_iff_ne.mpr c20
     have c20b1 : (x11_2 != 0) = true := bne_iff_ne.mpr c20
     (first | rw [c20b0] | (simp only [i64_w, i32_w]; rw [c20b0]) | skip)
     have H' := As H
     clear H
     have hcz21_0 := cells_16 BK270.out
     have hfz21_0 := fun j_ => blk_frozen BK270.out j_
     go_wp2
     go_meet
     case rel => exact ⟨_, (decide (x11_2 < (d15.size : Int))), kS, H', ⟨by have := HJ5.out; have := HK2.out; first | omega | exact Nat.le_refl _⟩, ⟨by (with_reducible repeat (first | apply Kd.S_alloc | apply Kd.S_drewN | apply Kd.S_drew)); exact HO_10.out⟩, ⟨kb BK270.out⟩, ⟨kB1 HB.out GE270.out⟩⟩
    clear HC19
    obtain ⟨kq, x49_18, rfl, HA, HJ18, HO_10, BK270, HB⟩ := hcut
    cases kq with
    | zero => exact absurd HA.out (by simp [ipv6_Split.j2])
    | succ kj18 =>
     have H := HA.out
     clear HA
     simp only [ipv6_Split.j2] at H
     by_cases c22 : x49_18 = true
     ·subst c22
      have H1 : (if a1 < (wrap64 ((d15.size : Int) - x11_2)) then (ipv6_Split.j3 kj18 a1 a2 x10_2 x11_2 (wrap64 (x11_2 + a1)) d0 d1 d2 d3 d4 d5 d6 d7 d8 d9 l0_10 false d12 d13 d14 d15) else (ipv6_Split.j3 kj18 a1 a2 x10_2 x11_2 (d15.size : Int) d0 d1 d2 d3 d4 d5 d6 d7 d8 d9 l0_10 false d12 d13 d14 d15)) = some (r1, r2) := by rw [if_pos rfl] at H; exact H
      clear H
      have H := H1
      clear H1
      have HC23 := As H
      clear H
      have hcz24_0 := cells_16 BK270.out
      have hfz24_0 := fun j_ => blk_frozen BK270.out j_
      go_upto_if 57 with (fail)
      go_cut [12] (fun v12 wc => ∃ (kq : Nat) (x12_22 : Int), v12 = .int .i64 x12_22 ∧ Aside0 (ipv6_Split.j3 kq a1 a2 x10_2 x11_2 x12_22 d0 d1 d2 d3 d4 d5 d6 d7 d8 d9 l0_10 false d12 d13 d14 d15 = some (r1, r2)) ∧ Aside0 (kq ≤ kj18) ∧ Aside0 (Kd.S k28 28 wc w.heap.size (fun k_ => k_ ≠ gb270) u10 x10_2) ∧ Aside0 (wc.heap[gb270]? = some (.cells #[.int .i64 d0, .int .i64 d1, .int .i64 d2, .int .i64 d3, .bool d4, .int .u64 d5, .int .u64 d6, .bool d7, .int .u64 d8, .int .u64 d9, (.slice A0_10 l0_10.length c0_10), .bool false, .int .i64 d12, .int .i64 d13, .bool d14, .string d15] 28 (0, 0))) ∧ Aside0 (Below w.heap.size w wc))
      case first =>
       have H := HC23.out
       clear HC23
       by_cases c25 : a1 < (wrap64 ((d15.size : Int) - x11_2))
       ·rw [if_pos c25] at H
        have c25b0 : decide (a1 < (wrap64 ((d15.size : Int) - x11_2))) = true := decide_eq_true c25
        clear c25
        (first | rw [c25b0] | (simp only [i64_w, i32_w]; rw [c25b0]) | skip)
        have H' := As H
        clear H
        go_wp2
        go_meet
        case rel => exact ⟨_, (wrap64 (x11_2 + a1)), kS, H', ⟨by have := HJ5.out; have := HK2.out; have := HJ18.out; first | omega | exact Nat.le_refl _⟩, ⟨by (with_reducible repeat (first | apply Kd.S_alloc | apply Kd.S_drewN | apply Kd.S_drew)); exact HO_10.out⟩, ⟨kb BK270.out⟩, ⟨kB1 HB.out GE270.out⟩⟩
       rw [if_neg c25] at H
       have c25b0 : decide (a1 < (wrap64 ((d15.size : Int) - x11_2))) = false := decide_eq_false c25
       clear c25
       (first | rw [c25b0] | (simp only [i64_w, i32_w]; rw [c25b0]) | skip)
       have H' := As H
       clear H
       go_wp2
       go_meet
       case rel => exact ⟨_, ((d15.size : Int)), kS, H', ⟨by have := HJ5.out; have := HK2.out; have := HJ18.out; first | omega | exact Nat.le_refl _⟩, ⟨by (with_reducible repeat (first | apply Kd.S_alloc | apply Kd.S_drewN | apply Kd.S_drew)); exact HO_10.out⟩, ⟨kb BK270.out⟩, ⟨kB1 HB.out GE270.out⟩⟩
      clear HC23
      try clear c22
      try clear hcz24_0
      try clear hfz24_0
      obtain ⟨kq, x12_22, rfl, HA, HJ22, HO_10, BK270, HB⟩ := hcut
      cases kq with
      | zero => exact absurd HA.out (by simp [ipv6_Split.j3])
      | succ kj22 =>
       have H := HA.out
       clear HA
       simp only [ipv6_Split.j3] at H
       obtain ⟨y278, hy278⟩ : ∃ y_ : List (S60), y_ = (([] : List (S60))) := ⟨_, rfl⟩
       replace H : (if y278.length + l0_10.length < 5864062014805 then ((some (y278 ++ l0_10 : List (S60))).bind fun y281 => (if 0 ≤ x11_2 then (if x11_2 ≤ x12_22 then (if x12_22 ≤ (d15.size : Int) then ((ipv6_Encode.f kj22 d0 d1 d2 d3 d4 d5 d6 d7 d8 d9 y281 true a2 x11_2 (decide (x12_22 < (d15.size : Int))) (d15.extract (x11_2 : Int).toNat (x12_22 : Int).toNat)).bind fun bt284 => (if bt284.2 = 0 then (if x10_2.length < 925904528653 then ((some (x10_2 ++ [(⟨d0, d1, d2, d3, (⟨d4, d5, d6⟩ : S25), (⟨d7, d8, d9⟩ : S25), y281, true, a2, x11_2, decide (x12_22 < (d15.size : Int)), d15.extract (x11_2 : Int).toNat (x12_22 : Int).toNat⟩ : S28)] : List (S28))).bind fun y286 => (if x12_22 = x11_2 then (some (y286, 0)) else (ipv6_Split.l0 kj22 a1 a2 y286 x12_22 d0 d1 d2 d3 d4 d5 d6 d7 d8 d9 l0_10 false d12 d13 d14 d15))) else (none)) else (some (([] : List (S28)), bt284.2)))) else (none)) else (none)) else (none))) else (none)) = some (r1, r2) := by first | (rw [hy278]; with_reducible exact H) | (have H2_ := (Option.bind_some _ _).symm.trans H; rw [hy278]; with_reducible exact H2_) | (have H2_ := (Option.bind_some _ _).symm.trans H; with_reducible exact H2_) | with_reducible exact H | (rw [hy278]; exact H) | exact H
       have Ny278 := As hy278
       clear hy278
       by_cases c26 : y278.length + l0_10.length < 5864062014805
       ·rw [if_pos c26] at H
        have LMc26 := As c26
        clear c26
        obtain ⟨y281, hy281⟩ : ∃ y_ : List (S60), y_ = (y278 ++ l0_10) := ⟨_, rfl⟩
        replace H : (if 0 ≤ x11_2 then (if x11_2 ≤ x12_22 then (if x12_22 ≤ (d15.size : Int) then ((ipv6_Encode.f kj22 d0 d1 d2 d3 d4 d5 d6 d7 d8 d9 y281 true a2 x11_2 (decide (x12_22 < (d15.size : Int))) (d15.extract (x11_2 : Int).toNat (x12_22 : Int).toNat)).bind fun bt284 => (if bt284.2 = 0 then (if x10_2.length < 925904528653 then ((some (x10_2 ++ [(⟨d0, d1, d2, d3, (⟨d4, d5, d6⟩ : S25), (⟨d7, d8, d9⟩ : S25), y281, true, a2, x11_2, decide (x12_22 < (d15.size : Int)), d15.extract (x11_2 : Int).toNat (x12_22 : Int).toNat⟩ : S28)] : List (S28))).bind fun y286 => (if x12_22 = x11_2 then (some (y286, 0)) else (ipv6_Split.l0 kj22 a1 a2 y286 x12_22 d0 d1 d2 d3 d4 d5 d6 d7 d8 d9 l0_10 false d12 d13 d14 d15))) else (none)) else (some (([] : List (S28)), bt284.2)))) else (none)) else (none)) else (none)) = some (r1, r2) := by first | (rw [hy281]; with_reducible exact H) | (have H2_ := (Option.bind_some _ _).symm.trans H; rw [hy281]; with_reducible exact H2_) | (have H2_ := (Option.bind_some _ _).symm.trans H; with_reducible exact H2_) | with_reducible exact H | (rw [hy281]; exact H) | exact H
        have Ny281 := As hy281
        clear hy281
        by_cases c27 : 0 ≤ x11_2
        ·rw [if_pos c27] at H
         have c27b0 := eq_true c27
         have c27b1 : decide (0 ≤ x11_2) = true := decide_eq_true c27
         clear c27
         by_cases c28 : x11_2 ≤ x12_22
         ·rw [if_pos c28] at H
          have c28b0 := eq_true c28
          have c28b1 : decide (x11_2 ≤ x12_22) = true := decide_eq_true c28
          clear c28
          by_cases c29 : x12_22 ≤ (d15.size : Int)
          ·rw [if_pos c29] at H
           have c29b0 := eq_true c29
           have c29b1 : decide (x12_22 ≤ (d15.size : Int)) = true := decide_eq_true c29
           clear c29
           replace H := Option.bind_eq_some_iff.mp H
           obtain ⟨⟨t284, t285⟩, A300, H⟩ := H
           replace H : (if t285 = 0 then (if x10_2.length < 925904528653 then ((some (x10_2 ++ [(⟨d0, d1, d2, d3, (⟨d4, d5, d6⟩ : S25), (⟨d7, d8, d9⟩ : S25), y281, true, a2, x11_2, decide (x12_22 < (d15.size : Int)), d15.extract (x11_2 : Int).toNat (x12_22 : Int).toNat⟩ : S28)] : List (S28))).bind fun y286 => (if x12_22 = x11_2 then (some (y286, 0)) else (ipv6_Split.l0 kj22 a1 a2 y286 x12_22 d0 d1 d2 d3 d4 d5 d6 d7 d8 d9 l0_10 false d12 d13 d14 d15))) else (none)) else (some (([] : List (S28)), t285))) = some (r1, r2) := H
           have A30 := As A300
           clear A300
           by_cases c31 : t285 = 0
           ·rw [if_pos c31] at H
            have c31b0 : (t285 == 0) = true := beq_iff_eq.mpr c31
            have c31b1 : (t285 != 0) = false := bne_eq_false_iff_eq.mpr c31
            clear c31
            by_cases c32 : x10_2.length < 925904528653
            ·rw [if_pos c32] at H
             have LMc32 := As c32
             clear c32
             obtain ⟨y286, hy286⟩ : ∃ y_ : List (S28), y_ = (x10_2 ++ [(⟨d0, d1, d2, d3, (⟨d4, d5, d6⟩ : S25), (⟨d7, d8, d9⟩ : S25), y281, true, a2, x11_2, decide (x12_22 < (d15.size : Int)), d15.extract (x11_2 : Int).toNat (x12_22 : Int).toNat⟩ : S28)]) := ⟨_, rfl⟩
             replace H : (if x12_22 = x11_2 then (some (y286, 0)) else (ipv6_Split.l0 kj22 a1 a2 y286 x12_22 d0 d1 d2 d3 d4 d5 d6 d7 d8 d9 l0_10 false d12 d13 d14 d15)) = some (r1, r2) := by first | (rw [hy286]; with_reducible exact H) | (have H2_ := (Option.bind_some _ _).symm.trans H; rw [hy286]; with_reducible exact H2_) | (have H2_ := (Option.bind_some _ _).symm.trans H; with_reducible exact H2_) | with_reducible exact H | (rw [hy286]; exact H) | exact H
             have Ny286 := As hy286
             clear hy286
             by_cases c33 : x12_22 = x11_2
             ·rw [if_pos c33] at H
              have c33b0 : (x12_22 == x11_2) = true := beq_iff_eq.mpr c33
              have c33b1 : (x12_22 != x11_2) = false := bne_eq_false_iff_eq.mpr c33
              clear c33
              simp only [Option.some.injEq, Prod.mk.injEq] at H
              obtain ⟨rfl, rfl⟩ := H
              try go_wp2_with (first | ((with_reducible refine gate_dst (N := 61) rfl ?_); (try (refine gate_guard (by rfl) ?_; dsimp only)); refine wpList_load_row rfl 28 _ rfl gb270 rfl 28 _ (0, 0) _ (kb BK270.out) Try.underlying28 rfl (by kernel_rfl) ?_) | ((with_reducible refine gate_dst (N := 13) rfl ?_); (try (refine gate_guard (by rfl) ?_; dsimp only)); refine box_event rfl (N := 13) rfl (cs := #[.int .i64 0, .int .i64 0, .int .i64 0, .int .i64 0, .bool false, .int .u64 0, .int .u64 0, .bool false, .int .u64 0, .int .u64 0, .slice none 0 0, .bool false, .int .i64 0, .int .i64 0, .bool false, .string (⟨#[]⟩ : ByteArray)]) (t := 28) kG ?_; intro gb277 hg w34 hbox hb; replace HO_10 := As (Kd.S_below (Kd.S_elderB (by (with_reducible repeat (first | apply Kd.S_alloc | apply Kd.S_drewN | apply Kd.S_drew)); exact HO_10.out) gb277 (Nat.le_of_eq hg.symm)) hb); have BK277 := As (hbox); have GW277 := As ((by rw [hg]; exact (below_size (kB1 HB.out GE270.out)) : w.heap.size ≤ gb277)); have GE277 := As ((by rw [hg]; exact (below_size (kB1 HB.out GE270.out)) : w.heap.size ≤ gb277)); replace HB := As (below_step (kB1 HB.out GE270.out) hb); have NB270_277 := As ((by rw [hg]; exact Nat.ne_of_lt (blk_lt (kb BK270.out)) : gb270 ≠ gb277)); have NB277_270 := As ((by rw [hg]; exact Nat.ne_of_gt (blk_lt (kb BK270.out)) : gb277 ≠ gb270)); replace BK270 := As (blk_below (kb BK270.out) hb); clear hb hbox hg) | ((with_reducible refine gate_store (t := 28) (p := 13) rfl ?_); refine store_rowev_16 gb277 (.int .i64 d0) (.int .i64 d1) (.int .i64 d2) (.int .i64 d3) (.bool d4) (.int .u64 d5) (.int .u64 d6) (.bool d7) (.int .u64 d8) (.int .u64 d9) (.slice A0_10 l0_10.length c0_10) (.bool false) (.int .i64 d12) (.int .i64 d13) (.bool d14) (.string d15) rfl (t := 28) (p := 13) (v := _) rfl rfl rfl rfl (t' := 28) (kb BK277.out) (by rfl) (by kernel_rfl) (by rfl) ?_) | ((with_reducible refine gate_dst (N := 62) rfl ?_); (try (refine gate_guard (by rfl) ?_; dsimp only)); refine Kd.R_lit k60 _ 60 rfl (N := 62) rfl (xs := ([] : List (S60))) (inner := []) (ok := fun _ => True) (okp := fun _ => True) kG ?hp (fun _ hk => hk) trivial (Below.refl _ _) (Nat.le_refl _) (by simp) ?_; (case hp => exact (Reps.none _ _)); intro v279 w35 ho36 hb hg_ hnew_; clear hg_ hnew_; (first | rw [← Ny278.out] at ho36 | (simp only [Int.reduceToNat] at ho36; rw [← Ny278.out] at ho36)); replace HO_10 := As (Kd.S_elder' (by (with_reducible repeat (first | apply Kd.S_alloc | apply Kd.S_drewN | apply Kd.S_drew)); exact (Kd.S_mono (Kd.S_puts_0_16 gb277 (.int .i64 d0) (.int .i64 d1) (.int .i64 d2) (.int .i64 d3) (.bool d4) (.int .u64 d5) (.int .u64 d6) (.bool d7) (.int .u64 d8) (.int .u64 d9) (.slice A0_10 l0_10.length c0_10) (.bool false) (.int .i64 d12) (.int .i64 d13) (.bool d14) (.string d15) (Kd.S_mono HO_10.out (fun k_ hk => (⟨hk, hk.2⟩ : _ ∧ k_ ≠ gb277))) (fun _ hk => hk.2)) (fun _ h_ => h_.1))) (Kd.R_base ho36) hb); have HO280 := As (Kd.R_lower ho36 (below_size (kB2 HB.out GE270.out GE277.out))); replace BK270 := As (blk_below (g := gb270) (o := .cells #[.int .i64 d0, .int .i64 d1, .int .i64 d2, .int .i64 d3, .bool d4, .int .u64 d5, .int .u64 d6, .bool d7, .int .u64 d8, .int .u64 d9, .slice A0_10 l0_10.length c0_10, .bool false, .int .i64 d12, .int .i64 d13, .bool d14, .string d15] 28 (0, 0)) (by refine kb ?_; (iterate 16 (refine blk_far ?_ NB270_277.out _; refine kb ?_)); exact BK270.out) hb); replace BK277 := As (blk_below (g := gb277) (o := .cells #[.int .i64 d0, .int .i64 d1, .int .i64 d2, .int .i64 d3, .bool d4, .int .u64 d5, .int .u64 d6, .bool d7, .int .u64 d8, .int .u64 d9, .slice A0_10 l0_10.length c0_10, .bool false, .int .i64 d12, .int .i64 d13, .bool d14, .string d15] 28 (0, 0)) (by refine kb ?_; exact blk_all_16 (kb BK277.out) (by rfl)) hb); replace HB := As (below_step (kB2 HB.out GE270.out GE277.out) hb); clear hb ho36; have hnb37 := NB270_277.out; have hnc37 := NB277_270.out; have hcz38_0 := cells_16 BK270.out; have hfz38_0 := fun j_ => blk_frozen BK270.out j_) | ((with_reducible refine gate_builtin (b := .append) (xs := #[.tmp 62, .tmp 64]) rfl ?_); (try (refine gate_guard (by rfl) ?_; dsimp only)); at_builtin; refine Kd.R_append_rows k60 (w0 := w) w.heap.size rfl (.tmp 62) (.tmp 64) 26 60 (.agg #[(.int .i64 0), (.string ⟨#[]⟩)]) 24 rfl Try.underlying26 info60 rfl (by decide) (by omega) v279 y278 l0_10 _ _ _ (fun _ => True) (fun _ => False) rfl rfl ?aO ?aR (fun _ _ h => h) (fun _ h => h.elim) ?aF ?aB ?aS ?aL ?_; (case aR => repeat (first | exact (Kd.C_below HR0_10.out HB.out) | (with_reducible refine Kd.C_alloc ?_ _) | (with_reducible refine Kd.C_drewN ?_ _) | (with_reducible refine Kd.C_drew ?_))); (case aB => exact (kB2 HB.out GE270.out GE277.out)); (case aF => exact (fun _ _ => trivial)); (case aO => exact (kR HO280.out)); (case aS => exact (below_size (kB2 HB.out GE270.out GE277.out))); (case aL => have := LMc26.out; omega); intro v282 w39 ho hb hg hat; rw [← Ny281.out] at ho; replace HO_10 := As (Kd.S_after (ok := (fun k_ => k_ ≠ gb270 ∧ k_ ≠ gb277)) (by (with_reducible repeat (first | apply Kd.S_alloc | apply Kd.S_drewN | apply Kd.S_drew)); exact HO_10.out) hg hat); replace BK270 := As (blk_grown (kb BK270.out) hg (Kd.R_ne HO280.out BK270.out (by decide))); replace BK277 := As (blk_grown (kb BK277.out) hg (Kd.R_ne HO280.out BK277.out (by decide))); replace HB := As (hb); have HO283 := As (ho); clear HO280; clear ho hb hg hat; obtain ⟨Ao40, co40, eo40⟩ := Kd.R_slice HO283.out; subst eo40; have hcz41_0 := cells_16 BK277.out; have hfz41_0 := fun j_ => blk_frozen BK277.out j_))
              have n0_ : Aside0 (Kd.S k28 28 (w39.setCell ⟨gb277, 10, none⟩ (.slice Ao40 y281.length co40)) w.heap.size (fun k_ => some k_ ≠ (.slice Ao40 y281.length co40 : Value).ownBlock ∧ k_ ≠ gb270 ∧ k_ ≠ gb277) u10 x10_2) := ⟨by (with_reducible repeat (first | apply Kd.S_alloc | apply Kd.S_drewN | apply Kd.S_drew)); exact Kd.S_mono (Kd.S_far (p := ⟨gb277, 10, none⟩) (Kd.S_mono HO_10.out (fun k_ hk => (⟨hk, hk.1.2⟩ : _ ∧ k_ ≠ gb277))) (fun _ hk => hk.2) (.slice Ao40 y281.length co40)) (fun _ hk => ⟨hk.1.2, ⟨hk.1.1.1, hk.1.1.2⟩⟩)⟩
              have n1_ : Aside0 (Kd.R k60 60 (w39.setCell ⟨gb277, 10, none⟩ (.slice Ao40 y281.length co40)) w.heap.size (fun _ => True) (.slice Ao40 y281.length co40) y281) := ⟨by (with_reducible repeat (first | apply Kd.R_alloc | apply Kd.R_drewN | apply Kd.R_drew)); exact Kd.R_mono (Kd.R_far (p := ⟨gb277, 10, none⟩) (Kd.R_types HO283.out BK277.out (by decide)) (fun _ hk => hk.2) (.slice Ao40 y281.length co40)) (fun _ hk => trivial)⟩
              have n2_ : Aside0 ((w39.setCell ⟨gb277, 10, none⟩ (.slice Ao40 y281.length co40)).heap[gb270]? = some (.cells #[.int .i64 d0, .int .i64 d1, .int .i64 d2, .int .i64 d3, .bool d4, .int .u64 d5, .int .u64 d6, .bool d7, .int .u64 d8, .int .u64 d9, .slice A0_10 l0_10.length c0_10, .bool false, .int .i64 d12, .int .i64 d13, .bool d14, .string d15] 28 (0, 0))) := ⟨by refine kb ?_; refine blk_far ?_ NB270_277.out _; exact kb BK270.out⟩
              have n3_ : Aside0 ((w39.setCell ⟨gb277, 10, none⟩ (.slice Ao40 y281.length co40)).heap[gb277]? = some (.cells #[.int .i64 d0, .int .i64 d1, .int .i64 d2, .int .i64 d3, .bool d4, .int .u64 d5, .int .u64 d6, .bool d7, .int .u64 d8, .int .u64 d9, .slice Ao40 y281.length co40, .bool false, .int .i64 d12, .int .i64 d13, .bool d14, .string d15] 28 (0, 0))) := ⟨by refine kb ?_; refine blk_put (cs := #[.int .i64 d0, .int .i64 d1, .int .i64 d2, .int .i64 d3, .bool d4, .int .u64 d5, .int .u64 d6, .bool d7, .int .u64 d8, .int .u64 d9, .slice A0_10 l0_10.length c0_10, .bool false, .int .i64 d12, .int .i64 d13, .bool d14, .string d15]) ?_ 10 _ rfl; exact kb BK277.out⟩
              have n4_ : Aside0 (Below w.heap.size w (w39.setCell ⟨gb277, 10, none⟩ (.slice Ao40 y281.length co40))) := ⟨kB2 HB.out GE270.out GE277.out⟩
              (try clear HO_10)
              (try clear HO283)
              (try clear BK270)
              (try clear BK277)
              (try clear HB)
              generalize (w39.setCell ⟨gb277, 10, none⟩ (.slice Ao40 y281.length co40)) = w42 at n0_ n1_ n2_ n3_ n4_ ⊢
              have HO_10 := n0_
              have HO283 := n1_
              have BK270 := n2_
              have BK277 := n3_
              have HB := n4_
              clear n0_ n1_ n2_ n3_ n4_
              replace HO_10 := As (Kd.S_drew HO_10.out)
              replace HO283 := As (Kd.R_drew HO283.out)
              replace BK270 := As (blk_drew BK270.out)
              replace BK277 := As (blk_drew BK277.out)
              replace HB := As (below_drew1 HB.out)
              refine start_ (n := 22) (S := fun w' => w'.cell? ⟨gb270, 0, none⟩ = some (.int .i64 d0) ∧ w'.cell? ⟨gb270, 1, none⟩ = some (.int .i64 d1) ∧ w'.cell? ⟨gb270, 2, none⟩ = some (.int .i64 d2) ∧ w'.cell? ⟨gb270, 3, none⟩ = some (.int .i64 d3) ∧ w'.cell? ⟨gb270, 4, none⟩ = some (.bool d4) ∧ w'.cell? ⟨gb270, 5, none⟩ = some (.int .u64 d5) ∧ w'.cell? ⟨gb270, 6, none⟩ = some (.int .u64 d6) ∧ w'.cell? ⟨gb270, 7, none⟩ = some (.bool d7) ∧ w'.cell? ⟨gb270, 8, none⟩ = some (.int .u64 d8) ∧ w'.cell? ⟨gb270, 9, none⟩ = some (.int .u64 d9) ∧ w'.cell? ⟨gb270, 10, none⟩ = some (.slice A0_10 l0_10.length c0_10) ∧ w'.cell? ⟨gb270, 11, none⟩ = some (.bool false) ∧ w'.cell? ⟨gb270, 12, none⟩ = some (.int .i64 d12) ∧ w'.cell? ⟨gb270, 13, none⟩ = some (.int .i64 d13) ∧ w'.cell? ⟨gb270, 14, none⟩ = some (.bool d14) ∧ w'.cell? ⟨gb270, 15, none⟩ = some (.string d15)) (ds := []) #[false, false, false, false, false, false, false, false, false, false, false, false, false, false, false, false, false, false, false, false, false, false] (by kernel_rfl) rfl rfl ⟨(blk_cell BK270.out 0).trans rfl, (blk_cell BK270.out 1).trans rfl, (blk_cell BK270.out 2).trans rfl, (blk_cell BK270.out 3).trans rfl, (blk_cell BK270.out 4).trans rfl, (blk_cell BK270.out 5).trans rfl, (blk_cell BK270.out 6).trans rfl, (blk_cell BK270.out 7).trans rfl, (blk_cell BK270.out 8).trans rfl, (blk_cell BK270.out 9).trans rfl, (blk_cell BK270.out 10).trans rfl, (blk_cell BK270.out 11).trans rfl, (blk_cell BK270.out 12).trans rfl, (blk_cell BK270.out 13).trans rfl, (blk_cell BK270.out 14).trans rfl, (blk_cell BK270.out 15).trans rfl⟩ (fun hHeld => ?_); refine with_tabW ipv6_Split.tab16 ipv6_Split.bits16 (fun HT_ HW_ => ?_)
              generalize w42.drew = w43 at HO_10 HO283 BK270 BK277 HB hHeld ⊢
              refine kP 0 67 #[true, false, false, false, false, false, false, false, false, false, false, false, false, false, false, false, false, false, false, false, false, false] ?_ (any_of HT_.out (by kernel_rfl))
              refine kP 1 68 #[true, true, false, false, false, false, false, false, false, false, false, false, false, false, false, false, false, false, false, false, false, false] ?_ (any_of HT_.out (by kernel_rfl))
              refine kP 2 69 #[true, true, true, false, false, false, false, false, false, false, false, false, false, false, false, false, false, false, false, false, false, false] ?_ (any_of HT_.out (by kernel_rfl))
              refine kP 3 70 #[true, true, true, true, false, false, false, false, false, false, false, false, false, false, false, false, false, false, false, false, false, false] ?_ (any_of HT_.out (by kernel_rfl))
              refine kP 7 74 #[true, true, true, true, false, false, false, true, false, false, false, false, false, false, false, false, false, false, false, false, false, false] ?_ (any_of HT_.out (by kernel_rfl))
              refine kP 9 76 #[true, true, true, true, false, false, false, true, false, true, false, false, false, false, false, false, false, false, false, false, false, false] ?_ (any_of HT_.out (by kernel_rfl))
              refine kP 10 77 #[true, true, true, true, false, false, false, true, false, true, true, false, false, false, false, false, false, false, false, false, false, false] ?_ (any_of HT_.out (by kernel_rfl))
              refine kP 12 79 #[true, true, true, true, false, false, false, true, false, true, true, false, true, false, false, false, false, false, false, false, false, false] ?_ (any_of HT_.out (by kernel_rfl))
              refine take_ (i := 4) (N := some 71) (v := ?_) (a' := ?_) #[true, true, true, true, true, false, false, true, false, true, true, false, true, false, false, false, false, false, false, false, false, false] rfl rfl (take_ofW HT_.out HW_.out (by kernel_rfl)) (fun _ _ _ h => h) (Or.inl ⟨by rfl, ?_⟩) hHeld ?_ ?_
              rotate_left
              ·rintro w' ⟨s0, s1, s2, s3, s4, s5, s6, s7, s8, s9, s10, s11, s12, s13, s14, s15⟩
               go_simp
               with_reducible rfl
              rotate_left
              ·simp only [Act.put, sA, sZ, sS, i64_w, i32_w]
               rfl
              refine kP 5 72 #[true, true, true, true, true, true, false, true, false, true, true, false, true, false, false, false, false, false, false, false, false, false] ?_ (any_of HT_.out (by kernel_rfl))
              refine kP 6 73 #[true, true, true, true, true, true, true, true, false, true, true, false, true, false, false, false, false, false, false, false, false, false] ?_ (any_of HT_.out (by kernel_rfl))
              refine take_ (i := 8) (N := some 75) (v := ?_) (a' := ?_) #[true, true, true, true, true, true, true, true, true, true, true, false, true, false, false, false, false, false, false, false, false, false] rfl rfl (take_ofW HT_.out HW_.out (by kernel_rfl)) (fun _ _ _ h => h) (Or.inl ⟨by rfl, ?_⟩) hHeld ?_ ?_
              rotate_left
              ·rintro w' ⟨s0, s1, s2, s3, s4, s5, s6, s7, s8, s9, s10, s11, s12, s13, s14, s15⟩
               go_simp
               with_reducible rfl
              rotate_left
              ·simp only [Act.put, sA, sZ, sS, i64_w, i32_w]
               rfl
              refine kP 11 78 #[true, true, true, true, true, true, true, true, true, true, true, true, true, false, false, false, false, false, false, false, false, false] ?_ (any_of HT_.out (by kernel_rfl))
              refine one_ (i := 13) (N := none) #[true, true, true, true, true, true, true, true, true, true, true, true, true, true, false, false, false, false, false, false, false, false] rfl rfl (one_of HT_.out (by kernel_rfl)) (by decide) (fun K hK => ?_)
              have hs44 : w43.cell? ⟨gb277, 11, none⟩ = some (.bool false) := (blk_cell BK277.out 11).trans rfl
              have hfs44 := blk_frozen BK277.out 11
              have hns44_0 := NB270_277.out
              have hms44_0 := NB277_270.out
              refine skip_ (w1 := ?_) (by rfl) rfl ?_ ?_
              rotate_left
              ·go_simp
               rfl
              refine hK.out _ _ ⟨((cell_far (p := ⟨gb277, _, none⟩) NB270_277.out _).trans (hHeld.1)), ((cell_far (p := ⟨gb277, _, none⟩) NB270_277.out _).trans (hHeld.2.1)), ((cell_far (p := ⟨gb277, _, none⟩) NB270_277.out _).trans (hHeld.2.2.1)), ((cell_far (p := ⟨gb277, _, none⟩) NB270_277.out _).trans (hHeld.2.2.2.1)), ((cell_far (p := ⟨gb277, _, none⟩) NB270_277.out _).trans (hHeld.2.2.2.2.1)), ((cell_far (p := ⟨gb277, _, none⟩) NB270_277.out _).trans (hHeld.2.2.2.2.2.1)), ((cell_far (p := ⟨gb277, _, none⟩) NB270_277.out _).trans (hHeld.2.2.2.2.2.2.1)), ((cell_far (p := ⟨gb277, _, none⟩) NB270_277.out _).trans (hHeld.2.2.2.2.2.2.2.1)), ((cell_far (p := ⟨gb277, _, none⟩) NB270_277.out _).trans (hHeld.2.2.2.2.2.2.2.2.1)), ((cell_far (p := ⟨gb277, _, none⟩) NB270_277.out _).trans (hHeld.2.2.2.2.2.2.2.2.2.1)), ((cell_far (p := ⟨gb277, _, none⟩) NB270_277.out _).trans (hHeld.2.2.2.2.2.2.2.2.2.2.1)), ((cell_far (p := ⟨gb277, _, none⟩) NB270_277.out _).trans (hHeld.2.2.2.2.2.2.2.2.2.2.2.1)), ((cell_far (p := ⟨gb277, _, none⟩) NB270_277.out _).trans (hHeld.2.2.2.2.2.2.2.2.2.2.2.2.1)), ((cell_far (p := ⟨gb277, _, none⟩) NB270_277.out _).trans (hHeld.2.2.2.2.2.2.2.2.2.2.2.2.2.1)), ((cell_far (p := ⟨gb277, _, none⟩) NB270_277.out _).trans (hHeld.2.2.2.2.2.2.2.2.2.2.2.2.2.2.1)), ((cell_far (p := ⟨gb277, _, none⟩) NB270_277.out _).trans (hHeld.2.2.2.2.2.2.2.2.2.2.2.2.2.2.2))⟩ (fun hHeld => ?_)
              clear hK K
              refine kP 14 80 #[true, true, true, true, true, true, true, true, true, true, true, true, true, true, true, false, false, false, false, false, false, false] ?_ (any_of HT_.out (by kernel_rfl))
              refine one_ (i := 15) (N := none) #[true, true, true, true, true, true, true, true, true, true, true, true, true, true, true, true, false, false, false, false, false, false] rfl rfl (one_of HT_.out (by kernel_rfl)) (by decide) (fun K hK => ?_)
              have hs45 : w43.cell? ⟨gb277, 12, none⟩ = some (.int .i64 d12) := (blk_cell BK277.out 12).trans rfl
              have hfs45 := blk_frozen BK277.out 12
              have hns45_0 := NB270_277.out
              have hms45_0 := NB277_270.out
              refine skip_ (w1 := ?_) (by rfl) rfl ?_ ?_
              rotate_left
              ·go_simp
               rfl
              refine hK.out _ _ ⟨((cell_far (p := ⟨gb277, _, none⟩) NB270_277.out _).trans (hHeld.1)), ((cell_far (p := ⟨gb277, _, none⟩) NB270_277.out _).trans (hHeld.2.1)), ((cell_far (p := ⟨gb277, _, none⟩) NB270_277.out _).trans (hHeld.2.2.1)), ((cell_far (p := ⟨gb277, _, none⟩) NB270_277.out _).trans (hHeld.2.2.2.1)), ((cell_far (p := ⟨gb277, _, none⟩) NB270_277.out _).trans (hHeld.2.2.2.2.1)), ((cell_far (p := ⟨gb277, _, none⟩) NB270_277.out _).trans (hHeld.2.2.2.2.2.1)), ((cell_far (p := ⟨gb277, _, none⟩) NB270_277.out _).trans (hHeld.2.2.2.2.2.2.1)), ((cell_far (p := ⟨gb277, _, none⟩) NB270_277.out _).trans (hHeld.2.2.2.2.2.2.2.1)), ((cell_far (p := ⟨gb277, _, none⟩) NB270_277.out _).trans (hHeld.2.2.2.2.2.2.2.2.1)), ((cell_far (p := ⟨gb277, _, none⟩) NB270_277.out _).trans (hHeld.2.2.2.2.2.2.2.2.2.1)), ((cell_far (p := ⟨gb277, _, none⟩) NB270_277.out _).trans (hHeld.2.2.2.2.2.2.2.2.2.2.1)), ((cell_far (p := ⟨gb277, _, none⟩) NB270_277.out _).trans (hHeld.2.2.2.2.2.2.2.2.2.2.2.1)), ((cell_far (p := ⟨gb277, _, none⟩) NB270_277.out _).trans (hHeld.2.2.2.2.2.2.2.2.2.2.2.2.1)), ((cell_far (p := ⟨gb277, _, none⟩) NB270_277.out _).trans (hHeld.2.2.2.2.2.2.2.2.2.2.2.2.2.1)), ((cell_far (p := ⟨gb277, _, none⟩) NB270_277.out _).trans (hHeld.2.2.2.2.2.2.2.2.2.2.2.2.2.2.1)), ((cell_far (p := ⟨gb277, _, none⟩) NB270_277.out _).trans (hHeld.2.2.2.2.2.2.2.2.2.2.2.2.2.2.2))⟩ (fun hHeld => ?_)
              clear hK K
              refine kP 16 81 #[true, true, true, true, true, true, true, true, true, true, true, true, true, true, true, true, true, false, false, false, false, false] ?_ (any_of HT_.out (by kernel_rfl))
              refine one_ (i := 17) (N := none) #[true, true, true, true, true, true, true, true, true, true, true, true, true, true, true, true, true, true, false, false, false, false] rfl rfl (one_of HT_.out (by kernel_rfl)) (by decide) (fun K hK => ?_)
              have hs46 : w43.cell? ⟨gb277, 13, none⟩ = some (.int .i64 d13) := (blk_cell BK277.out 13).trans rfl
              have hfs46 := blk_frozen BK277.out 13
              have hns46_0 := NB270_277.out
              have hms46_0 := NB277_270.out
              refine skip_ (w1 := ?_) (by rfl) rfl ?_ ?_
              rotate_left
              ·go_simp
               rfl
              refine hK.out _ _ ⟨((cell_far (p := ⟨gb277, _, none⟩) NB270_277.out _).trans (hHeld.1)), ((cell_far (p := ⟨gb277, _, none⟩) NB270_277.out _).trans (hHeld.2.1)), ((cell_far (p := ⟨gb277, _, none⟩) NB270_277.out _).trans (hHeld.2.2.1)), ((cell_far (p := ⟨gb277, _, none⟩) NB270_277.out _).trans (hHeld.2.2.2.1)), ((cell_far (p := ⟨gb277, _, none⟩) NB270_277.out _).trans (hHeld.2.2.2.2.1)), ((cell_far (p := ⟨gb277, _, none⟩) NB270_277.out _).trans (hHeld.2.2.2.2.2.1)), ((cell_far (p := ⟨gb277, _, none⟩) NB270_277.out _).trans (hHeld.2.2.2.2.2.2.1)), ((cell_far (p := ⟨gb277, _, none⟩) NB270_277.out _).trans (hHeld.2.2.2.2.2.2.2.1)), ((cell_far (p := ⟨gb277, _, none⟩) NB270_277.out _).trans (hHeld.2.2.2.2.2.2.2.2.1)), ((cell_far (p := ⟨gb277, _, none⟩) NB270_277.out _).trans (hHeld.2.2.2.2.2.2.2.2.2.1)), ((cell_far (p := ⟨gb277, _, none⟩) NB270_277.out _).trans (hHeld.2.2.2.2.2.2.2.2.2.2.1)), ((cell_far (p := ⟨gb277, _, none⟩) NB270_277.out _).trans (hHeld.2.2.2.2.2.2.2.2.2.2.2.1)), ((cell_far (p := ⟨gb277, _, none⟩) NB270_277.out _).trans (hHeld.2.2.2.2.2.2.2.2.2.2.2.2.1)), ((cell_far (p := ⟨gb277, _, none⟩) NB270_277.out _).trans (hHeld.2.2.2.2.2.2.2.2.2.2.2.2.2.1)), ((cell_far (p := ⟨gb277, _, none⟩) NB270_277.out _).trans (hHeld.2.2.2.2.2.2.2.2.2.2.2.2.2.2.1)), ((cell_far (p := ⟨gb277, _, none⟩) NB270_277.out _).trans (hHeld.2.2.2.2.2.2.2.2.2.2.2.2.2.2.2))⟩ (fun hHeld => ?_)
              clear hK K
              refine kP 18 82 #[true, true, true, true, true, true, true, true, true, true, true, true, true, true, true, true, true, true, true, false, false, false] ?_ (any_of HT_.out (by kernel_rfl))
              refine one_ (i := 19) (N := none) #[true, true, true, true, true, true, true, true, true, true, true, true, true, true, true, true, true, true, true, true, false, false] rfl rfl (one_of HT_.out (by kernel_rfl)) (by decide) (fun K hK => ?_)
              have hs47 : w43.cell? ⟨gb277, 14, none⟩ = some (.bool d14) := (blk_cell BK277.out 14).trans rfl
              have hfs47 := blk_frozen BK277.out 14
              have hns47_0 := NB270_277.out
              have hms47_0 := NB277_270.out
              refine skip_ (w1 := ?_) (by rfl) rfl ?_ ?_
              rotate_left
              ·go_simp
               rfl
              refine hK.out _ _ ⟨((cell_far (p := ⟨gb277, _, none⟩) NB270_277.out _).trans (hHeld.1)), ((cell_far (p := ⟨gb277, _, none⟩) NB270_277.out _).trans (hHeld.2.1)), ((cell_far (p := ⟨gb277, _, none⟩) NB270_277.out _).trans (hHeld.2.2.1)), ((cell_far (p := ⟨gb277, _, none⟩) NB270_277.out _).trans (hHeld.2.2.2.1)), ((cell_far (p := ⟨gb277, _, none⟩) NB270_277.out _).trans (hHeld.2.2.2.2.1)), ((cell_far (p := ⟨gb277, _, none⟩) NB270_277.out _).trans (hHeld.2.2.2.2.2.1)), ((cell_far (p := ⟨gb277, _, none⟩) NB270_277.out _).trans (hHeld.2.2.2.2.2.2.1)), ((cell_far (p := ⟨gb277, _, none⟩) NB270_277.out _).trans (hHeld.2.2.2.2.2.2.2.1)), ((cell_far (p := ⟨gb277, _, none⟩) NB270_277.out _).trans (hHeld.2.2.2.2.2.2.2.2.1)), ((cell_far (p := ⟨gb277, _, none⟩) NB270_277.out _).trans (hHeld.2.2.2.2.2.2.2.2.2.1)), ((cell_far (p := ⟨gb277, _, none⟩) NB270_277.out _).trans (hHeld.2.2.2.2.2.2.2.2.2.2.1)), ((cell_far (p := ⟨gb277, _, none⟩) NB270_277.out _).trans (hHeld.2.2.2.2.2.2.2.2.2.2.2.1)), ((cell_far (p := ⟨gb277, _, none⟩) NB270_277.out _).trans (hHeld.2.2.2.2.2.2.2.2.2.2.2.2.1)), ((cell_far (p := ⟨gb277, _, none⟩) NB270_277.out _).trans (hHeld.2.2.2.2.2.2.2.2.2.2.2.2.2.1)), ((cell_far (p := ⟨gb277, _, none⟩) NB270_277.out _).trans (hHeld.2.2.2.2.2.2.2.2.2.2.2.2.2.2.1)), ((cell_far (p := ⟨gb277, _, none⟩) NB270_277.out _).trans (hHeld.2.2.2.2.2.2.2.2.2.2.2.2.2.2.2))⟩ (fun hHeld => ?_)
              clear hK K
              refine kP 20 83 #[true, true, true, true, true, true, true, true, true, true, true, true, true, true, true, true, true, true, true, true, true, false] ?_ (any_of HT_.out (by kernel_rfl))
              refine one_ (i := 21) (N := none) #[true, true, true, true, true, true, true, true, true, true, true, true, true, true, true, true, true, true, true, true, true, true] rfl rfl (one_of HT_.out (by kernel_rfl)) (by decide) (fun K hK => ?_)
              have hs48 : w43.cell? ⟨gb277, 15, none⟩ = some (.string d15) := (blk_cell BK277.out 15).trans rfl
              have hfs48 := blk_frozen BK277.out 15
              have hns48_0 := NB270_277.out
              have hms48_0 := NB277_270.out
              refine skip_ (w1 := ?_) (by rfl) rfl ?_ ?_
              rotate_left
              ·go_simp
               rfl
              refine hK.out _ _ ⟨((cell_far (p := ⟨gb277, _, none⟩) NB270_277.out _).trans (hHeld.1)), ((cell_far (p := ⟨gb277, _, none⟩) NB270_277.out _).trans (hHeld.2.1)), ((cell_far (p := ⟨gb277, _, none⟩) NB270_277.out _).trans (hHeld.2.2.1)), ((cell_far (p := ⟨gb277, _, none⟩) NB270_277.out _).trans (hHeld.2.2.2.1)), ((cell_far (p := ⟨gb277, _, none⟩) NB270_277.out _).trans (hHeld.2.2.2.2.1)), ((cell_far (p := ⟨gb277, _, none⟩) NB270_277.out _).trans (hHeld.2.2.2.2.2.1)), ((cell_far (p := ⟨gb277, _, none⟩) NB270_277.out _).trans (hHeld.2.2.2.2.2.2.1)), ((cell_far (p := ⟨gb277, _, none⟩) NB270_277.out _).trans (hHeld.2.2.2.2.2.2.2.1)), ((cell_far (p := ⟨gb277, _, none⟩) NB270_277.out _).trans (hHeld.2.2.2.2.2.2.2.2.1)), ((cell_far (p := ⟨gb277, _, none⟩) NB270_277.out _).trans (hHeld.2.2.2.2.2.2.2.2.2.1)), ((cell_far (p := ⟨gb277, _, none⟩) NB270_277.out _).trans (hHeld.2.2.2.2.2.2.2.2.2.2.1)), ((cell_far (p := ⟨gb277, _, none⟩) NB270_277.out _).trans (hHeld.2.2.2.2.2.2.2.2.2.2.2.1)), ((cell_far (p := ⟨gb277, _, none⟩) NB270_277.out _).trans (hHeld.2.2.2.2.2.2.2.2.2.2.2.2.1)), ((cell_far (p := ⟨gb277, _, none⟩) NB270_277.out _).trans (hHeld.2.2.2.2.2.2.2.2.2.2.2.2.2.1)), ((cell_far (p := ⟨gb277, _, none⟩) NB270_277.out _).trans (hHeld.2.2.2.2.2.2.2.2.2.2.2.2.2.2.1)), ((cell_far (p := ⟨gb277, _, none⟩) NB270_277.out _).trans (hHeld.2.2.2.2.2.2.2.2.2.2.2.2.2.2.2))⟩ (fun hHeld => ?_)
              clear hK K
              refine done_ (done_of HT_.out (by kernel_rfl)) ?_
              try go_wp2_with (first | ((with_reducible refine gate_dst (N := 85) rfl ?_); (try (refine gate_guard (by rfl) ?_; dsimp only)); refine wpList_load_row ?hgd 28 _ rfl gb277 rfl 28 #[.int .i64 d0, .int .i64 d1, .int .i64 d2, .int .i64 d3, .bool d4, .int .u64 d5, .int .u64 d6, .bool d7, .int .u64 d8, .int .u64 d9, .slice Ao40 y281.length co40, .bool true, .int .i64 a2, .int .i64 x11_2, .bool (decide (x12_22 < (d15.size : Int))), .string (d15.extract (x11_2 : Int).toNat (x12_22 : Int).toNat)] (0, 0) _ (by refine kb ?_; refine blk_put (cs := #[.int .i64 d0, .int .i64 d1, .int .i64 d2, .int .i64 d3, .bool d4, .int .u64 d5, .int .u64 d6, .bool d7, .int .u64 d8, .int .u64 d9, .slice Ao40 y281.length co40, .bool true, .int .i64 a2, .int .i64 x11_2, .bool (decide (x12_22 < (d15.size : Int))), .string d15]) ?_ 15 _ rfl; refine kb ?_; refine blk_put (cs := #[.int .i64 d0, .int .i64 d1, .int .i64 d2, .int .i64 d3, .bool d4, .int .u64 d5, .int .u64 d6, .bool d7, .int .u64 d8, .int .u64 d9, .slice Ao40 y281.length co40, .bool true, .int .i64 a2, .int .i64 x11_2, .bool d14, .string d15]) ?_ 14 _ rfl; refine kb ?_; refine blk_put (cs := #[.int .i64 d0, .int .i64 d1, .int .i64 d2, .int .i64 d3, .bool d4, .int .u64 d5, .int .u64 d6, .bool d7, .int .u64 d8, .int .u64 d9, .slice Ao40 y281.length co40, .bool true, .int .i64 a2, .int .i64 d13, .bool d14, .string d15]) ?_ 13 _ rfl; refine kb ?_; refine blk_put (cs := #[.int .i64 d0, .int .i64 d1, .int .i64 d2, .int .i64 d3, .bool d4, .int .u64 d5, .int .u64 d6, .bool d7, .int .u64 d8, .int .u64 d9, .slice Ao40 y281.length co40, .bool true, .int .i64 d12, .int .i64 d13, .bool d14, .string d15]) ?_ 12 _ rfl; refine kb ?_; refine blk_put (cs := #[.int .i64 d0, .int .i64 d1, .int .i64 d2, .int .i64 d3, .bool d4, .int .u64 d5, .int .u64 d6, .bool d7, .int .u64 d8, .int .u64 d9, .slice Ao40 y281.length co40, .bool false, .int .i64 d12, .int .i64 d13, .bool d14, .string d15]) ?_ 11 _ rfl; exact kb BK277.out) Try.underlying28 rfl (by kernel_rfl) ?_; (case hgd => rfl)) | ((with_reducible refine gate_callee (f := 15) rfl ?_); refine goesL_ (some 86) rfl rfl Try.func15 (by kernel_rfl) rfl #[.agg #[.int .i64 d0, .int .i64 d1, .int .i64 d2, .int .i64 d3, .bool d4, .int .u64 d5, .int .u64 d6, .bool d7, .int .u64 d8, .int .u64 d9, .slice Ao40 y281.length co40, .bool true, .int .i64 a2, .int .i64 x11_2, .bool (decide (x12_22 < (d15.size : Int))), .string (d15.extract (x11_2 : Int).toNat (x12_22 : Int).toNat)]] rfl kA ?_; (with_reducible refine (ipv6_Encode.calls kj22 d0 d1 d2 d3 d4 d5 d6 d7 d8 d9 _ _ y281 true a2 x11_2 (decide (x12_22 < (d15.size : Int))) (d15.extract (x11_2 : Int).toNat (x12_22 : Int).toNat) t284 t285 _ ?side1 ?side2 A30.out).mono ?_); (case side1 => refine (Kd.R_reads' (e := 60) (base := w.heap.size) (ok := fun k_ => True) (n := y281.length) (c := co40) ?_).2.2; exact (by refine kR ?_; exact (Kd.R_mono (Kd.R_puts_11_5 gb277 (.bool true) (.int .i64 a2) (.int .i64 x11_2) (.bool (decide (x12_22 < (d15.size : Int)))) (.string (d15.extract (x11_2 : Int).toNat (x12_22 : Int).toNat)) (Kd.R_types HO283.out BK277.out (by decide)) (fun _ hk => hk.2)) (fun _ h_ => h_.1)))); (case side2 => exact (Kd.R_reads' HO283.out).2.1); rintro e w49 ⟨rfl, hb⟩; refine ⟨_, rfl, ?_⟩; replace HO_10 := As (Kd.S_below (by (with_reducible repeat (first | apply Kd.S_alloc | apply Kd.S_drewN | apply Kd.S_drew)); exact (Kd.S_mono (Kd.S_puts_11_5 gb277 (.bool true) (.int .i64 a2) (.int .i64 x11_2) (.bool (decide (x12_22 < (d15.size : Int)))) (.string (d15.extract (x11_2 : Int).toNat (x12_22 : Int).toNat)) (Kd.S_mono HO_10.out (fun k_ hk => (⟨hk, hk.2.2⟩ : _ ∧ k_ ≠ gb277))) (fun _ hk => hk.2)) (fun _ h_ => h_.1))) hb); replace HO283 := As (Kd.R_below (by refine kR ?_; exact (Kd.R_mono (Kd.R_puts_11_5 gb277 (.bool true) (.int .i64 a2) (.int .i64 x11_2) (.bool (decide (x12_22 < (d15.size : Int)))) (.string (d15.extract (x11_2 : Int).toNat (x12_22 : Int).toNat)) (Kd.R_types HO283.out BK277.out (by decide)) (fun _ hk => hk.2)) (fun _ h_ => h_.1))) hb); replace BK270 := As (blk_below (g := gb270) (o := .cells #[.int .i64 d0, .int .i64 d1, .int .i64 d2, .int .i64 d3, .bool d4, .int .u64 d5, .int .u64 d6, .bool d7, .int .u64 d8, .int .u64 d9, .slice A0_10 l0_10.length c0_10, .bool false, .int .i64 d12, .int .i64 d13, .bool d14, .string d15] 28 (0, 0)) (by refine kb ?_; (iterate 5 (refine blk_far ?_ NB270_277.out _; refine kb ?_)); exact BK270.out) hb); replace BK277 := As (blk_below (g := gb277) (o := .cells #[.int .i64 d0, .int .i64 d1, .int .i64 d2, .int .i64 d3, .bool d4, .int .u64 d5, .int .u64 d6, .bool d7, .int .u64 d8, .int .u64 d9, .slice Ao40 y281.length co40, .bool true, .int .i64 a2, .int .i64 x11_2, .bool (decide (x12_22 < (d15.size : Int))), .string (d15.extract (x11_2 : Int).toNat (x12_22 : Int).toNat)] 28 (0, 0)) (by refine kb ?_; refine blk_put (cs := #[.int .i64 d0, .int .i64 d1, .int .i64 d2, .int .i64 d3, .bool d4, .int .u64 d5, .int .u64 d6, .bool d7, .int .u64 d8, .int .u64 d9, .slice Ao40 y281.length co40, .bool true, .int .i64 a2, .int .i64 x11_2, .bool (decide (x12_22 < (d15.size : Int))), .string d15]) ?_ 15 _ rfl; refine kb ?_; refine blk_put (cs := #[.int .i64 d0, .int .i64 d1, .int .i64 d2, .int .i64 d3, .bool d4, .int .u64 d5, .int .u64 d6, .bool d7, .int .u64 d8, .int .u64 d9, .slice Ao40 y281.length co40, .bool true, .int .i64 a2, .int .i64 x11_2, .bool d14, .string d15]) ?_ 14 _ rfl; refine kb ?_; refine blk_put (cs := #[.int .i64 d0, .int .i64 d1, .int .i64 d2, .int .i64 d3, .bool d4, .int .u64 d5, .int .u64 d6, .bool d7, .int .u64 d8, .int .u64 d9, .slice Ao40 y281.length co40, .bool true, .int .i64 a2, .int .i64 d13, .bool d14, .string d15]) ?_ 13 _ rfl; refine kb ?_; refine blk_put (cs := #[.int .i64 d0, .int .i64 d1, .int .i64 d2, .int .i64 d3, .bool d4, .int .u64 d5, .int .u64 d6, .bool d7, .int .u64 d8, .int .u64 d9, .slice Ao40 y281.length co40, .bool true, .int .i64 d12, .int .i64 d13, .bool d14, .string d15]) ?_ 12 _ rfl; refine kb ?_; refine blk_put (cs := #[.int .i64 d0, .int .i64 d1, .int .i64 d2, .int .i64 d3, .bool d4, .int .u64 d5, .int .u64 d6, .bool d7, .int .u64 d8, .int .u64 d9, .slice Ao40 y281.length co40, .bool false, .int .i64 d12, .int .i64 d13, .bool d14, .string d15]) ?_ 11 _ rfl; exact kb BK277.out) hb); replace HB := As (below_step (kB2 HB.out GE270.out GE277.out) hb); (try clear hb); (try clear hk)) | ((with_reducible refine gate_dst (N := 93) rfl ?_); (try (refine gate_guard (by rfl) ?_; dsimp only)); refine wpList_load_row rfl 28 _ rfl gb277 rfl 28 _ (0, 0) _ (kb BK277.out) Try.underlying28 rfl (by kernel_rfl) ?_) | ((with_reducible refine gate_builtin (b := .append) (xs := #[.tmp 92, .tmp 94]) rfl ?_); (try (refine gate_guard (by rfl) ?_; dsimp only)); at_builtin; refine Kd.S_append k28 (w0 := w) w.heap.size rfl (.tmp 92) (.tmp 94) 38 28 (.agg #[(.int .i64 0), (.int .i64 0), (.int .i64 0), (.int .i64 0), (.bool false), (.int .u64 0), (.int .u64 0), (.bool false), (.int .u64 0), (.int .u64 0), (.slice none 0 0), (.bool false), (.int .i64 0), (.int .i64 0), (.bool false), (.string ⟨#[]⟩)]) 152 rfl Try.underlying38 info28 rfl (by decide) (by omega) u10 x10_2 (⟨d0, d1, d2, d3, (⟨d4, d5, d6⟩ : S25), (⟨d7, d8, d9⟩ : S25), y281, true, a2, x11_2, decide (x12_22 < (d15.size : Int)), d15.extract (x11_2 : Int).toNat (x12_22 : Int).toNat⟩ : S28) [.int .i64 d0, .int .i64 d1, .int .i64 d2, .int .i64 d3, .bool d4, .int .u64 d5, .int .u64 d6, .bool d7, .int .u64 d8, .int .u64 d9, .slice Ao40 y281.length co40, .bool true, .int .i64 a2, .int .i64 x11_2, .bool (decide (x12_22 < (d15.size : Int))), .string (d15.extract (x11_2 : Int).toNat (x12_22 : Int).toNat)] (fun k_ => k_ ≠ gb270 ∧ k_ ≠ gb277) (fun k_ => some k_ = (.slice Ao40 y281.length co40 : Value).ownBlock) rfl rfl ?aP (fun k_ hk_ => ((Kd.R_mono (ok' := fun k_ => ((fun k_ => k_ ≠ gb270 ∧ k_ ≠ gb277)) k_ ∧ some k_ ≠ (u10 : Value).ownBlock) (Kd.R_types (Kd.R_types (Kd.R_apart' (HO283.out) (Kd.S_typed HO_10.out) (by decide)) BK270.out (by decide)) BK277.out (by decide)) (fun k_ hk => ⟨⟨hk.1.2, hk.2⟩, hk.1.1.2⟩))).1 k_ hk_.symm) ?aF ?aO ?aB ?aS ?aL ?_; (case aP => exact k28_mkM _ _ _ (⟨d0, d1, d2, d3, (⟨d4, d5, d6⟩ : S25), (⟨d7, d8, d9⟩ : S25), y281, true, a2, x11_2, decide (x12_22 < (d15.size : Int)), d15.extract (x11_2 : Int).toNat (x12_22 : Int).toNat⟩ : S28) (Kd.R_mono (Kd.R_tight rfl (Kd.R_mono (ok' := fun k_ => ((fun k_ => k_ ≠ gb270 ∧ k_ ≠ gb277)) k_ ∧ some k_ ≠ (u10 : Value).ownBlock) (Kd.R_types (Kd.R_types (Kd.R_apart' (HO283.out) (Kd.S_typed HO_10.out) (by decide)) BK270.out (by decide)) BK277.out (by decide)) (fun k_ hk => ⟨⟨hk.1.2, hk.2⟩, hk.1.1.2⟩))) (fun _ h_ => h_))); (case aB => exact (kB2 HB.out GE270.out GE277.out)); (case aF => exact (fun k_ hk => ⟨Kd.freshB (kb BK270.out) k_ hk, Kd.freshB (kb BK277.out) k_ hk⟩)); (case aO => exact (by (with_reducible repeat (first | apply Kd.S_alloc | apply Kd.S_drewN | apply Kd.S_drew)); exact Kd.S_mono HO_10.out (fun k_ hk => ⟨⟨hk.2.1, hk.2.2⟩, fun e_ => hk.1 e_⟩))); (case aS => exact (below_size (kB2 HB.out GE270.out GE277.out))); (case aL => have := LMc32.out; omega); intro v287 w50 ho hb hg hat; rw [← Ny286.out] at ho; replace BK270 := As (blk_grown (kb BK270.out) hg (Kd.S_away HO_10.out (fun _ hk => hk.2.1))); replace BK277 := As (blk_grown (kb BK277.out) hg (Kd.S_away HO_10.out (fun _ hk => hk.2.2))); replace HB := As (hb); have HO288 := As (ho); clear HO_10 HO283; clear ho hb hg hat))
              go_ret2
              exact ⟨_, kE, by (with_reducible repeat (first | apply Kd.S_alloc | apply Kd.S_drewN | apply Kd.S_drew)); exact Kd.S_mono HO288.out (fun _ hk => trivial), by exact kB2 HB.out GE270.out GE277.out⟩
             rw [if_neg c33] at H
             have c33b0 : (x12_22 == x11_2) = false := beq_eq_false_iff_ne.mpr c33
             have c33b1 : (x12_22 != x11_2) = true := bne_iff_ne.mpr c33
             have H' := As H
             clear H
             try go_wp2_with (first | ((with_reducible refine gate_dst (N := 61) rfl ?_); (try (refine gate_guard (by rfl) ?_; dsimp only)); refine wpList_load_row rfl 28 _ rfl gb270 rfl 28 _ (0, 0) _ (kb BK270.out) Try.underlying28 rfl (by kernel_rfl) ?_) | ((with_reducible refine gate_dst (N := 13) rfl ?_); (try (refine gate_guard (by rfl) ?_; dsimp only)); refine box_event rfl (N := 13) rfl (cs := #[.int .i64 0, .int .i64 0, .int .i64 0, .int .i64 0, .bool false, .int .u64 0, .int .u64 0, .bool false, .int .u64 0, .int .u64 0, .slice none 0 0, .bool false, .int .i64 0, .int .i64 0, .bool false, .string (⟨#[]⟩ : ByteArray)]) (t := 28) kG ?_; intro gb277 hg w51 hbox hb; replace HO_10 := As (Kd.S_below (Kd.S_elderB (by (with_reducible repeat (first | apply Kd.S_alloc | apply Kd.S_drewN | apply Kd.S_drew)); exact HO_10.out) gb277 (Nat.le_of_eq hg.symm)) hb); have BK277 := As (hbox); have GW277 := As ((by rw [hg]; exact (below_size (kB1 HB.out GE270.out)) : w.heap.size ≤ gb277)); have GE277 := As ((by rw [hg]; exact (below_size (kB1 HB.out GE270.out)) : w.heap.size ≤ gb277)); replace HB := As (below_step (kB1 HB.out GE270.out) hb); have NB270_277 := As ((by rw [hg]; exact Nat.ne_of_lt (blk_lt (kb BK270.out)) : gb270 ≠ gb277)); have NB277_270 := As ((by rw [hg]; exact Nat.ne_of_gt (blk_lt (kb BK270.out)) : gb277 ≠ gb270)); replace BK270 := As (blk_below (kb BK270.out) hb); clear hb hbox hg) | ((with_reducible refine gate_store (t := 28) (p := 13) rfl ?_); refine store_rowev_16 gb277 (.int .i64 d0) (.int .i64 d1) (.int .i64 d2) (.int .i64 d3) (.bool d4) (.int .u64 d5) (.int .u64 d6) (.bool d7) (.int .u64 d8) (.int .u64 d9) (.slice A0_10 l0_10.length c0_10) (.bool false) (.int .i64 d12) (.int .i64 d13) (.bool d14) (.string d15) rfl (t := 28) (p := 13) (v := _) rfl rfl rfl rfl (t' := 28) (kb BK277.out) (by rfl) (by kernel_rfl) (by rfl) ?_) | ((with_reducible refine gate_dst (N := 62) rfl ?_); (try (refine gate_guard (by rfl) ?_; dsimp only)); refine Kd.R_lit k60 _ 60 rfl (N := 62) rfl (xs := ([] : List (S60))) (inner := []) (ok := fun _ => True) (okp := fun _ => True) kG ?hp (fun _ hk => hk) trivial (Below.refl _ _) (Nat.le_refl _) (by simp) ?_; (case hp => exact (Reps.none _ _)); intro v279 w52 ho53 hb hg_ hnew_; clear hg_ hnew_; (first | rw [← Ny278.out] at ho53 | (simp only [Int.reduceToNat] at ho53; rw [← Ny278.out] at ho53)); replace HO_10 := As (Kd.S_elder' (by (with_reducible repeat (first | apply Kd.S_alloc | apply Kd.S_drewN | apply Kd.S_drew)); exact (Kd.S_mono (Kd.S_puts_0_16 gb277 (.int .i64 d0) (.int .i64 d1) (.int .i64 d2) (.int .i64 d3) (.bool d4) (.int .u64 d5) (.int .u64 d6) (.bool d7) (.int .u64 d8) (.int .u64 d9) (.slice A0_10 l0_10.length c0_10) (.bool false) (.int .i64 d12) (.int .i64 d13) (.bool d14) (.string d15) (Kd.S_mono HO_10.out (fun k_ hk => (⟨hk, hk.2⟩ : _ ∧ k_ ≠ gb277))) (fun _ hk => hk.2)) (fun _ h_ => h_.1))) (Kd.R_base ho53) hb); have HO280 := As (Kd.R_lower ho53 (below_size (kB2 HB.out GE270.out GE277.out))); replace BK270 := As (blk_below (g := gb270) (o := .cells #[.int .i64 d0, .int .i64 d1, .int .i64 d2, .int .i64 d3, .bool d4, .int .u64 d5, .int .u64 d6, .bool d7, .int .u64 d8, .int .u64 d9, .slice A0_10 l0_10.length c0_10, .bool false, .int .i64 d12, .int .i64 d13, .bool d14, .string d15] 28 (0, 0)) (by refine kb ?_; (iterate 16 (refine blk_far ?_ NB270_277.out _; refine kb ?_)); exact BK270.out) hb); replace BK277 := As (blk_below (g := gb277) (o := .cells #[.int .i64 d0, .int .i64 d1, .int .i64 d2, .int .i64 d3, .bool d4, .int .u64 d5, .int .u64 d6, .bool d7, .int .u64 d8, .int .u64 d9, .slice A0_10 l0_10.length c0_10, .bool false, .int .i64 d12, .int .i64 d13, .bool d14, .string d15] 28 (0, 0)) (by refine kb ?_; exact blk_all_16 (kb BK277.out) (by rfl)) hb); replace HB := As (below_step (kB2 HB.out GE270.out GE277.out) hb); clear hb ho53; have hnb54 := NB270_277.out; have hnc54 := NB277_270.out; have hcz55_0 := cells_16 BK270.out; have hfz55_0 := fun j_ => blk_frozen BK270.out j_) | ((with_reducible refine gate_builtin (b := .append) (xs := #[.tmp 62, .tmp 64]) rfl ?_); (try (refine gate_guard (by rfl) ?_; dsimp only)); at_builtin; refine Kd.R_append_rows k60 (w0 := w) w.heap.size rfl (.tmp 62) (.tmp 64) 26 60 (.agg #[(.int .i64 0), (.string ⟨#[]⟩)]) 24 rfl Try.underlying26 info60 rfl (by decide) (by omega) v279 y278 l0_10 _ _ _ (fun _ => True) (fun _ => False) rfl rfl ?aO ?aR (fun _ _ h => h) (fun _ h => h.elim) ?aF ?aB ?aS ?aL ?_; (case aR => repeat (first | exact (Kd.C_below HR0_10.out HB.out) | (with_reducible refine Kd.C_alloc ?_ _) | (with_reducible refine Kd.C_drewN ?_ _) | (with_reducible refine Kd.C_drew ?_))); (case aB => exact (kB2 HB.out GE270.out GE277.out)); (case aF => exact (fun _ _ => trivial)); (case aO => exact (kR HO280.out)); (case aS => exact (below_size (kB2 HB.out GE270.out GE277.out))); (case aL => have := LMc26.out; omega); intro v282 w56 ho hb hg hat; rw [← Ny281.out] at ho; replace HO_10 := As (Kd.S_after (ok := (fun k_ => k_ ≠ gb270 ∧ k_ ≠ gb277)) (by (with_reducible repeat (first | apply Kd.S_alloc | apply Kd.S_drewN | apply Kd.S_drew)); exact HO_10.out) hg hat); replace BK270 := As (blk_grown (kb BK270.out) hg (Kd.R_ne HO280.out BK270.out (by decide))); replace BK277 := As (blk_grown (kb BK277.out) hg (Kd.R_ne HO280.out BK277.out (by decide))); replace HB := As (hb); have HO283 := As (ho); clear HO280; clear ho hb hg hat; obtain ⟨Ao57, co57, eo57⟩ := Kd.R_slice HO283.out; subst eo57; have hcz58_0 := cells_16 BK277.out; have hfz58_0 := fun j_ => blk_frozen BK277.out j_))
             have n0_ : Aside0 (Kd.S k28 28 (w56.setCell ⟨gb277, 10, none⟩ (.slice Ao57 y281.length co57)) w.heap.size (fun k_ => some k_ ≠ (.slice Ao57 y281.length co57 : Value).ownBlock ∧ k_ ≠ gb270 ∧ k_ ≠ gb277) u10 x10_2) := ⟨by (with_reducible repeat (first | apply Kd.S_alloc | apply Kd.S_drewN | apply Kd.S_drew)); exact Kd.S_mono (Kd.S_far (p := ⟨gb277, 10, none⟩) (Kd.S_mono HO_10.out (fun k_ hk => (⟨hk, hk.1.2⟩ : _ ∧ k_ ≠ gb277))) (fun _ hk => hk.2) (.slice Ao57 y281.length co57)) (fun _ hk => ⟨hk.1.2, ⟨hk.1.1.1, hk.1.1.2⟩⟩)⟩
             have n1_ : Aside0 (Kd.R k60 60 (w56.setCell ⟨gb277, 10, none⟩ (.slice Ao57 y281.length co57)) w.heap.size (fun _ => True) (.slice Ao57 y281.length co57) y281) := ⟨by (with_reducible repeat (first | apply Kd.R_alloc | apply Kd.R_drewN | apply Kd.R_drew)); exact Kd.R_mono (Kd.R_far (p := ⟨gb277, 10, none⟩) (Kd.R_types HO283.out BK277.out (by decide)) (fun _ hk => hk.2) (.slice Ao57 y281.length co57)) (fun _ hk => trivial)⟩
             have n2_ : Aside0 ((w56.setCell ⟨gb277, 10, none⟩ (.slice Ao57 y281.length co57)).heap[gb270]? = some (.cells #[.int .i64 d0, .int .i64 d1, .int .i64 d2, .int .i64 d3, .bool d4, .int .u64 d5, .int .u64 d6, .bool d7, .int .u64 d8, .int .u64 d9, .slice A0_10 l0_10.length c0_10, .bool false, .int .i64 d12, .int .i64 d13, .bool d14, .string d15] 28 (0, 0))) := ⟨by refine kb ?_; refine blk_far ?_ NB270_277.out _; exact kb BK270.out⟩
             have n3_ : Aside0 ((w56.setCell ⟨gb277, 10, none⟩ (.slice Ao57 y281.length co57)).heap[gb277]? = some (.cells #[.int .i64 d0, .int .i64 d1, .int .i64 d2, .int .i64 d3, .bool d4, .int .u64 d5, .int .u64 d6, .bool d7, .int .u64 d8, .int .u64 d9, .slice Ao57 y281.length co57, .bool false, .int .i64 d12, .int .i64 d13, .bool d14, .string d15] 28 (0, 0))) := ⟨by refine kb ?_; refine blk_put (cs := #[.int .i64 d0, .int .i64 d1, .int .i64 d2, .int .i64 d3, .bool d4, .int .u64 d5, .int .u64 d6, .bool d7, .int .u64 d8, .int .u64 d9, .slice A0_10 l0_10.length c0_10, .bool false, .int .i64 d12, .int .i64 d13, .bool d14, .string d15]) ?_ 10 _ rfl; exact kb BK277.out⟩
             have n4_ : Aside0 (Below w.heap.size w (w56.setCell ⟨gb277, 10, none⟩ (.slice Ao57 y281.length co57))) := ⟨kB2 HB.out GE270.out GE277.out⟩
             (try clear HO_10)
             (try clear HO283)
             (try clear BK270)
             (try clear BK277)
             (try clear HB)
             generalize (w56.setCell ⟨gb277, 10, none⟩ (.slice Ao57 y281.length co57)) = w59 at n0_ n1_ n2_ n3_ n4_ ⊢
             have HO_10 := n0_
             have HO283 := n1_
             have BK270 := n2_
             have BK277 := n3_
             have HB := n4_
             clear n0_ n1_ n2_ n3_ n4_
             replace HO_10 := As (Kd.S_drew HO_10.out)
             replace HO283 := As (Kd.R_drew HO283.out)
             replace BK270 := As (blk_drew BK270.out)
             replace BK277 := As (blk_drew BK277.out)
             replace HB := As (below_drew1 HB.out)
             refine start_ (n := 22) (S := fun w' => w'.cell? ⟨gb270, 0, none⟩ = some (.int .i64 d0) ∧ w'.cell? ⟨gb270, 1, none⟩ = some (.int .i64 d1) ∧ w'.cell? ⟨gb270, 2, none⟩ = some (.int .i64 d2) ∧ w'.cell? ⟨gb270, 3, none⟩ = some (.int .i64 d3) ∧ w'.cell? ⟨gb270, 4, none⟩ = some (.bool d4) ∧ w'.cell? ⟨gb270, 5, none⟩ = some (.int .u64 d5) ∧ w'.cell? ⟨gb270, 6, none⟩ = some (.int .u64 d6) ∧ w'.cell? ⟨gb270, 7, none⟩ = some (.bool d7) ∧ w'.cell? ⟨gb270, 8, none⟩ = some (.int .u64 d8) ∧ w'.cell? ⟨gb270, 9, none⟩ = some (.int .u64 d9) ∧ w'.cell? ⟨gb270, 10, none⟩ = some (.slice A0_10 l0_10.length c0_10) ∧ w'.cell? ⟨gb270, 11, none⟩ = some (.bool false) ∧ w'.cell? ⟨gb270, 12, none⟩ = some (.int .i64 d12) ∧ w'.cell? ⟨gb270, 13, none⟩ = some (.int .i64 d13) ∧ w'.cell? ⟨gb270, 14, none⟩ = some (.bool d14) ∧ w'.cell? ⟨gb270, 15, none⟩ = some (.string d15)) (ds := []) #[false, false, false, false, false, false, false, false, false, false, false, false, false, false, false, false, false, false, false, false, false, false] (by kernel_rfl) rfl rfl ⟨(blk_cell BK270.out 0).trans rfl, (blk_cell BK270.out 1).trans rfl, (blk_cell BK270.out 2).trans rfl, (blk_cell BK270.out 3).trans rfl, (blk_cell BK270.out 4).trans rfl, (blk_cell BK270.out 5).trans rfl, (blk_cell BK270.out 6).trans rfl, (blk_cell BK270.out 7).trans rfl, (blk_cell BK270.out 8).trans rfl, (blk_cell BK270.out 9).trans rfl, (blk_cell BK270.out 10).trans rfl, (blk_cell BK270.out 11).trans rfl, (blk_cell BK270.out 12).trans rfl, (blk_cell BK270.out 13).trans rfl, (blk_cell BK270.out 14).trans rfl, (blk_cell BK270.out 15).trans rfl⟩ (fun hHeld => ?_); refine with_tabW ipv6_Split.tab16 ipv6_Split.bits16 (fun HT_ HW_ => ?_)
             generalize w59.drew = w60 at HO_10 HO283 BK270 BK277 HB hHeld ⊢
             refine kP 0 67 #[true, false, false, false, false, false, false, false, false, false, false, false, false, false, false, false, false, false, false, false, false, false] ?_ (any_of HT_.out (by kernel_rfl))
             refine kP 1 68 #[true, true, false, false, false, false, false, false, false, false, false, false, false, false, false, false, false, false, false, false, false, false] ?_ (any_of HT_.out (by kernel_rfl))
             refine kP 2 69 #[true, true, true, false, false, false, false, false, false, false, false, false, false, false, false, false, false, false, false, false, false, false] ?_ (any_of HT_.out (by kernel_rfl))
             refine kP 3 70 #[true, true, true, true, false, false, false, false, false, false, false, false, false, false, false, false, false, false, false, false, false, false] ?_ (any_of HT_.out (by kernel_rfl))
             refine kP 7 74 #[true, true, true, true, false, false, false, true, false, false, false, false, false, false, false, false, false, false, false, false, false, false] ?_ (any_of HT_.out (by kernel_rfl))
             refine kP 9 76 #[true, true, true, true, false, false, false, true, false, true, false, false, false, false, false, false, false, false, false, false, false, false] ?_ (any_of HT_.out (by kernel_rfl))
             refine kP 10 77 #[true, true, true, true, false, false, false, true, false, true, true, false, false, false, false, false, false, false, false, false, false, false] ?_ (any_of HT_.out (by kernel_rfl))
             refine kP 12 79 #[true, true, true, true, false, false, false, true, false, true, true, false, true, false, false, false, false, false, false, false, false, false] ?_ (any_of HT_.out (by kernel_rfl))
             refine take_ (i := 4) (N := some 71) (v := ?_) (a' := ?_) #[true, true, true, true, true, false, false, true, false, true, true, false, true, false, false, false, false, false, false, false, false, false] rfl rfl (take_ofW HT_.out HW_.out (by kernel_rfl)) (fun _ _ _ h => h) (Or.inl ⟨by rfl, ?_⟩) hHeld ?_ ?_
             rotate_left
             ·rintro w' ⟨s0, s1, s2, s3, s4, s5, s6, s7, s8, s9, s10, s11, s12, s13, s14, s15⟩
              go_simp
              with_reducible rfl
             rotate_left
             ·simp only [Act.put, sA, sZ, sS, i64_w, i32_w]
              rfl
             refine kP 5 72 #[true, true, true, true, true, true, false, true, false, true, true, false, true, false, false, false, false, false, false, false, false, false] ?_ (any_of HT_.out (by kernel_rfl))
             refine kP 6 73 #[true, true, true, true, true, true, true, true, false, true, true, false, true, false, false, false, false, false, false, false, false, false] ?_ (any_of HT_.out (by kernel_rfl))
             refine take_ (i := 8) (N := some 75) (v := ?_) (a' := ?_) #[true, true, true, true, true, true, true, true, true, true, true, false, true, false, false, false, false, false, false, false, false, false] rfl rfl (take_ofW HT_.out HW_.out (by kernel_rfl)) (fun _ _ _ h => h) (Or.inl ⟨by rfl, ?_⟩) hHeld ?_ ?_
             rotate_left
             ·rintro w' ⟨s0, s1, s2, s3, s4, s5, s6, s7, s8, s9, s10, s11, s12, s13, s14, s15⟩
              go_simp
              with_reducible rfl
             rotate_left
             ·simp only [Act.put, sA, sZ, sS, i64_w, i32_w]
              rfl
             refine kP 11 78 #[true, true, true, true, true, true, true, true, true, true, true, true, true, false, false, false, false, false, false, false, false, false] ?_ (any_of HT_.out (by kernel_rfl))
             refine one_ (i := 13) (N := none) #[true, true, true, true, true, true, true, true, true, true, true, true, true, true, false, false, false, false, false, false, false, false] rfl rfl (one_of HT_.out (by kernel_rfl)) (by decide) (fun K hK => ?_)
             have hs61 : w60.cell? ⟨gb277, 11, none⟩ = some (.bool false) := (blk_cell BK277.out 11).trans rfl
             have hfs61 := blk_frozen BK277.out 11
             have hns61_0 := NB270_277.out
             have hms61_0 := NB277_270.out
             refine skip_ (w1 := ?_) (by rfl) rfl ?_ ?_
             rotate_left
             ·go_simp
              rfl
             refine hK.out _ _ ⟨((cell_far (p := ⟨gb277, _, none⟩) NB270_277.out _).trans (hHeld.1)), ((cell_far (p := ⟨gb277, _, none⟩) NB270_277.out _).trans (hHeld.2.1)), ((cell_far (p := ⟨gb277, _, none⟩) NB270_277.out _).trans (hHeld.2.2.1)), ((cell_far (p := ⟨gb277, _, none⟩) NB270_277.out _).trans (hHeld.2.2.2.1)), ((cell_far (p := ⟨gb277, _, none⟩) NB270_277.out _).trans (hHeld.2.2.2.2.1)), ((cell_far (p := ⟨gb277, _, none⟩) NB270_277.out _).trans (hHeld.2.2.2.2.2.1)), ((cell_far (p := ⟨gb277, _, none⟩) NB270_277.out _).trans (hHeld.2.2.2.2.2.2.1)), ((cell_far (p := ⟨gb277, _, none⟩) NB270_277.out _).trans (hHeld.2.2.2.2.2.2.2.1)), ((cell_far (p := ⟨gb277, _, none⟩) NB270_277.out _).trans (hHeld.2.2.2.2.2.2.2.2.1)), ((cell_far (p := ⟨gb277, _, none⟩) NB270_277.out _).trans (hHeld.2.2.2.2.2.2.2.2.2.1)), ((cell_far (p := ⟨gb277, _, none⟩) NB270_277.out _).trans (hHeld.2.2.2.2.2.2.2.2.2.2.1)), ((cell_far (p := ⟨gb277, _, none⟩) NB270_277.out _).trans (hHeld.2.2.2.2.2.2.2.2.2.2.2.1)), ((cell_far (p := ⟨gb277, _, none⟩) NB270_277.out _).trans (hHeld.2.2.2.2.2.2.2.2.2.2.2.2.1)), ((cell_far (p := ⟨gb277, _, none⟩) NB270_277.out _).trans (hHeld.2.2.2.2.2.2.2.2.2.2.2.2.2.1)), ((cell_far (p := ⟨gb277, _, none⟩) NB270_277.out _).trans (hHeld.2.2.2.2.2.2.2.2.2.2.2.2.2.2.1)), ((cell_far (p := ⟨gb277, _, none⟩) NB270_277.out _).trans (hHeld.2.2.2.2.2.2.2.2.2.2.2.2.2.2.2))⟩ (fun hHeld => ?_)
             clear hK K
             refine kP 14 80 #[true, true, true, true, true, true, true, true, true, true, true, true, true, true, true, false, false, false, false, false, false, false] ?_ (any_of HT_.out (by kernel_rfl))
             refine one_ (i := 15) (N := none) #[true, true, true, true, true, true, true, true, true, true, true, true, true, true, true, true, false, false, false, false, false, false] rfl rfl (one_of HT_.out (by kernel_rfl)) (by decide) (fun K hK => ?_)
             have hs62 : w60.cell? ⟨gb277, 12, none⟩ = some (.int .i64 d12) := (blk_cell BK277.out 12).trans rfl
             have hfs62 := blk_frozen BK277.out 12
             have hns62_0 := NB270_277.out
             have hms62_0 := NB277_270.out
             refine skip_ (w1 := ?_) (by rfl) rfl ?_ ?_
             rotate_left
             ·go_simp
              rfl
             refine hK.out _ _ ⟨((cell_far (p := ⟨gb277, _, none⟩) NB270_277.out _).trans (hHeld.1)), ((cell_far (p := ⟨gb277, _, none⟩) NB270_277.out _).trans (hHeld.2.1)), ((cell_far (p := ⟨gb277, _, none⟩) NB270_277.out _).trans (hHeld.2.2.1)), ((cell_far (p := ⟨gb277, _, none⟩) NB270_277.out _).trans (hHeld.2.2.2.1)), ((cell_far (p := ⟨gb277, _, none⟩) NB270_277.out _).trans (hHeld.2.2.2.2.1)), ((cell_far (p := ⟨gb277, _, none⟩) NB270_277.out _).trans (hHeld.2.2.2.2.2.1)), ((cell_far (p := ⟨gb277, _, none⟩) NB270_277.out _).trans (hHeld.2.2.2.2.2.2.1)), ((cell_far (p := ⟨gb277, _, none⟩) NB270_277.out _).trans (hHeld.2.2.2.2.2.2.2.1)), ((cell_far (p := ⟨gb277, _, none⟩) NB270_277.out _).trans (hHeld.2.2.2.2.2.2.2.2.1)), ((cell_far (p := ⟨gb277, _, none⟩) NB270_277.out _).trans (hHeld.2.2.2.2.2.2.2.2.2.1)), ((cell_far (p := ⟨gb277, _, none⟩) NB270_277.out _).trans (hHeld.2.2.2.2.2.2.2.2.2.2.1)), ((cell_far (p := ⟨gb277, _, none⟩) NB270_277.out _).trans (hHeld.2.2.2.2.2.2.2.2.2.2.2.1)), ((cell_far (p := ⟨gb277, _, none⟩) NB270_277.out _).trans (hHeld.2.2.2.2.2.2.2.2.2.2.2.2.1)), ((cell_far (p := ⟨gb277, _, none⟩) NB270_277.out _).trans (hHeld.2.2.2.2.2.2.2.2.2.2.2.2.2.1)), ((cell_far (p := ⟨gb277, _, none⟩) NB270_277.out _).trans (hHeld.2.2.2.2.2.2.2.2.2.2.2.2.2.2.1)), ((cell_far (p := ⟨gb277, _, none⟩) NB270_277.out _).trans (hHeld.2.2.2.2.2.2.2.2.2.2.2.2.2.2.2))⟩ (fun hHeld => ?_)
             clear hK K
             refine kP 16 81 #[true, true, true, true, true, true, true, true, true, true, true, true, true, true, true, true, true, false, false, false, false, false] ?_ (any_of HT_.out (by kernel_rfl))
             refine one_ (i := 17) (N := none) #[true, true, true, true, true, true, true, true, true, true, true, true, true, true, true, true, true, true, false, false, false, false] rfl rfl (one_of HT_.out (by kernel_rfl)) (by decide) (fun K hK => ?_)
             have hs63 : w60.cell? ⟨gb277, 13, none⟩ = some (.int .i64 d13) := (blk_cell BK277.out 13).trans rfl
             have hfs63 := blk_frozen BK277.out 13
             have hns63_0 := NB270_277.out
             have hms63_0 := NB277_270.out
             refine skip_ (w1 := ?_) (by rfl) rfl ?_ ?_
             rotate_left
             ·go_simp
              rfl
             refine hK.out _ _ ⟨((cell_far (p := ⟨gb277, _, none⟩) NB270_277.out _).trans (hHeld.1)), ((cell_far (p := ⟨gb277, _, none⟩) NB270_277.out _).trans (hHeld.2.1)), ((cell_far (p := ⟨gb277, _, none⟩) NB270_277.out _).trans (hHeld.2.2.1)), ((cell_far (p := ⟨gb277, _, none⟩) NB270_277.out _).trans (hHeld.2.2.2.1)), ((cell_far (p := ⟨gb277, _, none⟩) NB270_277.out _).trans (hHeld.2.2.2.2.1)), ((cell_far (p := ⟨gb277, _, none⟩) NB270_277.out _).trans (hHeld.2.2.2.2.2.1)), ((cell_far (p := ⟨gb277, _, none⟩) NB270_277.out _).trans (hHeld.2.2.2.2.2.2.1)), ((cell_far (p := ⟨gb277, _, none⟩) NB270_277.out _).trans (hHeld.2.2.2.2.2.2.2.1)), ((cell_far (p := ⟨gb277, _, none⟩) NB270_277.out _).trans (hHeld.2.2.2.2.2.2.2.2.1)), ((cell_far (p := ⟨gb277, _, none⟩) NB270_277.out _).trans (hHeld.2.2.2.2.2.2.2.2.2.1)), ((cell_far (p := ⟨gb277, _, none⟩) NB270_277.out _).trans (hHeld.2.2.2.2.2.2.2.2.2.2.1)), ((cell_far (p := ⟨gb277, _, none⟩) NB270_277.out _).trans (hHeld.2.2.2.2.2.2.2.2.2.2.2.1)), ((cell_far (p := ⟨gb277, _, none⟩) NB270_277.out _).trans (hHeld.2.2.2.2.2.2.2.2.2.2.2.2.1)), ((cell_far (p := ⟨gb277, _, none⟩) NB270_277.out _).trans (hHeld.2.2.2.2.2.2.2.2.2.2.2.2.2.1)), ((cell_far (p := ⟨gb277, _, none⟩) NB270_277.out _).trans (hHeld.2.2.2.2.2.2.2.2.2.2.2.2.2.2.1)), ((cell_far (p := ⟨gb277, _, none⟩) NB270_277.out _).trans (hHeld.2.2.2.2.2.2.2.2.2.2.2.2.2.2.2))⟩ (fun hHeld => ?_)
             clear hK K
             refine kP 18 82 #[true, true, true, true, true, true, true, true, true, true, true, true, true, true, true, true, true, true, true, false, false, false] ?_ (any_of HT_.out (by kernel_rfl))
             refine one_ (i := 19) (N := none) #[true, true, true, true, true, true, true, true, true, true, true, true, true, true, true, true, true, true, true, true, false, false] rfl rfl (one_of HT_.out (by kernel_rfl)) (by decide) (fun K hK => ?_)
             have hs64 : w60.cell? ⟨gb277, 14, none⟩ = some (.bool d14) := (blk_cell BK277.out 14).trans rfl
             have hfs64 := blk_frozen BK277.out 14
             have hns64_0 := NB270_277.out
             have hms64_0 := NB277_270.out
             refine skip_ (w1 := ?_) (by rfl) rfl ?_ ?_
             rotate_left
             ·go_simp
              rfl
             refine hK.out _ _ ⟨((cell_far (p := ⟨gb277, _, none⟩) NB270_277.out _).trans (hHeld.1)), ((cell_far (p := ⟨gb277, _, none⟩) NB270_277.out _).trans (hHeld.2.1)), ((cell_far (p := ⟨gb277, _, none⟩) NB270_277.out _).trans (hHeld.2.2.1)), ((cell_far (p := ⟨gb277, _, none⟩) NB270_277.out _).trans (hHeld.2.2.2.1)), ((cell_far (p := ⟨gb277, _, none⟩) NB270_277.out _).trans (hHeld.2.2.2.2.1)), ((cell_far (p := ⟨gb277, _, none⟩) NB270_277.out _).trans (hHeld.2.2.2.2.2.1)), ((cell_far (p := ⟨gb277, _, none⟩) NB270_277.out _).trans (hHeld.2.2.2.2.2.2.1)), ((cell_far (p := ⟨gb277, _, none⟩) NB270_277.out _).trans (hHeld.2.2.2.2.2.2.2.1)), ((cell_far (p := ⟨gb277, _, none⟩) NB270_277.out _).trans (hHeld.2.2.2.2.2.2.2.2.1)), ((cell_far (p := ⟨gb277, _, none⟩) NB270_277.out _).trans (hHeld.2.2.2.2.2.2.2.2.2.1)), ((cell_far (p := ⟨gb277, _, none⟩) NB270_277.out _).trans (hHeld.2.2.2.2.2.2.2.2.2.2.1)), ((cell_far (p := ⟨gb277, _, none⟩) NB270_277.out _).trans (hHeld.2.2.2.2.2.2.2.2.2.2.2.1)), ((cell_far (p := ⟨gb277, _, none⟩) NB270_277.out _).trans (hHeld.2.2.2.2.2.2.2.2.2.2.2.2.1)), ((cell_far (p := ⟨gb277, _, none⟩) NB270_277.out _).trans (hHeld.2.2.2.2.2.2.2.2.2.2.2.2.2.1)), ((cell_far (p := ⟨gb277, _, none⟩) NB270_277.out _).trans (hHeld.2.2.2.2.2.2.2.2.2.2.2.2.2.2.1)), ((cell_far (p := ⟨gb277, _, none⟩) NB270_277.out _).trans (hHeld.2.2.2.2.2.2.2.2.2.2.2.2.2.2.2))⟩ (fun hHeld => ?_)
             clear hK K
             refine kP 20 83 #[true, true, true, true, true, true, true, true, true, true, true, true, true, true, true, true, true, true, true, true, true, false] ?_ (any_of HT_.out (by kernel_rfl))
             refine one_ (i := 21) (N := none) #[true, true, true, true, true, true, true, true, true, true, true, true, true, true, true, true, true, true, true, true, true, true] rfl rfl (one_of HT_.out (by kernel_rfl)) (by decide) (fun K hK => ?_)
             have hs65 : w60.cell? ⟨gb277, 15, none⟩ = some (.string d15) := (blk_cell BK277.out 15).trans rfl
             have hfs65 := blk_frozen BK277.out 15
             have hns65_0 := NB270_277.out
             have hms65_0 := NB277_270.out
             refine skip_ (w1 := ?_) (by rfl) rfl ?_ ?_
             rotate_left
             ·go_simp
              rfl
             refine hK.out _ _ ⟨((cell_far (p := ⟨gb277, _, none⟩) NB270_277.out _).trans (hHeld.1)), ((cell_far (p := ⟨gb277, _, none⟩) NB270_277.out _).trans (hHeld.2.1)), ((cell_far (p := ⟨gb277, _, none⟩) NB270_277.out _).trans (hHeld.2.2.1)), ((cell_far (p := ⟨gb277, _, none⟩) NB270_277.out _).trans (hHeld.2.2.2.1)), ((cell_far (p := ⟨gb277, _, none⟩) NB270_277.out _).trans (hHeld.2.2.2.2.1)), ((cell_far (p := ⟨gb277, _, none⟩) NB270_277.out _).trans (hHeld.2.2.2.2.2.1)), ((cell_far (p := ⟨gb277, _, none⟩) NB270_277.out _).trans (hHeld.2.2.2.2.2.2.1)), ((cell_far (p := ⟨gb277, _, none⟩) NB270_277.out _).trans (hHeld.2.2.2.2.2.2.2.1)), ((cell_far (p := ⟨gb277, _, none⟩) NB270_277.out _).trans (hHeld.2.2.2.2.2.2.2.2.1)), ((cell_far (p := ⟨gb277, _, none⟩) NB270_277.out _).trans (hHeld.2.2.2.2.2.2.2.2.2.1)), ((cell_far (p := ⟨gb277, _, none⟩) NB270_277.out _).trans (hHeld.2.2.2.2.2.2.2.2.2.2.1)), ((cell_far (p := ⟨gb277, _, none⟩) NB270_277.out _).trans (hHeld.2.2.2.2.2.2.2.2.2.2.2.1)), ((cell_far (p := ⟨gb277, _, none⟩) NB270_277.out _).trans (hHeld.2.2.2.2.2.2.2.2.2.2.2.2.1)), ((cell_far (p := ⟨gb277, _, none⟩) NB270_277.out _).trans (hHeld.2.2.2.2.2.2.2.2.2.2.2.2.2.1)), ((cell_far (p := ⟨gb277, _, none⟩) NB270_277.out _).trans (hHeld.2.2.2.2.2.2.2.2.2.2.2.2.2.2.1)), ((cell_far (p := ⟨gb277, _, none⟩) NB270_277.out _).trans (hHeld.2.2.2.2.2.2.2.2.2.2.2.2.2.2.2))⟩ (fun hHeld => ?_)
             clear hK K
             refine done_ (done_of HT_.out (by kernel_rfl)) ?_
             try go_wp2_with (first | ((with_reducible refine gate_dst (N := 85) rfl ?_); (try (refine gate_guard (by rfl) ?_; dsimp only)); refine wpList_load_row ?hgd 28 _ rfl gb277 rfl 28 #[.int .i64 d0, .int .i64 d1, .int .i64 d2, .int .i64 d3, .bool d4, .int .u64 d5, .int .u64 d6, .bool d7, .int .u64 d8, .int .u64 d9, .slice Ao57 y281.length co57, .bool true, .int .i64 a2, .int .i64 x11_2, .bool (decide (x12_22 < (d15.size : Int))), .string (d15.extract (x11_2 : Int).toNat (x12_22 : Int).toNat)] (0, 0) _ (by refine kb ?_; refine blk_put (cs := #[.int .i64 d0, .int .i64 d1, .int .i64 d2, .int .i64 d3, .bool d4, .int .u64 d5, .int .u64 d6, .bool d7, .int .u64 d8, .int .u64 d9, .slice Ao57 y281.length co57, .bool true, .int .i64 a2, .int .i64 x11_2, .bool (decide (x12_22 < (d15.size : Int))), .string d15]) ?_ 15 _ rfl; refine kb ?_; refine blk_put (cs := #[.int .i64 d0, .int .i64 d1, .int .i64 d2, .int .i64 d3, .bool d4, .int .u64 d5, .int .u64 d6, .bool d7, .int .u64 d8, .int .u64 d9, .slice Ao57 y281.length co57, .bool true, .int .i64 a2, .int .i64 x11_2, .bool d14, .string d15]) ?_ 14 _ rfl; refine kb ?_; refine blk_put (cs := #[.int .i64 d0, .int .i64 d1, .int .i64 d2, .int .i64 d3, .bool d4, .int .u64 d5, .int .u64 d6, .bool d7, .int .u64 d8, .int .u64 d9, .slice Ao57 y281.length co57, .bool true, .int .i64 a2, .int .i64 d13, .bool d14, .string d15]) ?_ 13 _ rfl; refine kb ?_; refine blk_put (cs := #[.int .i64 d0, .int .i64 d1, .int .i64 d2, .int .i64 d3, .bool d4, .int .u64 d5, .int .u64 d6, .bool d7, .int .u64 d8, .int .u64 d9, .slice Ao57 y281.length co57, .bool true, .int .i64 d12, .int .i64 d13, .bool d14, .string d15]) ?_ 12 _ rfl; refine kb ?_; refine blk_put (cs := #[.int .i64 d0, .int .i64 d1, .int .i64 d2, .int .i64 d3, .bool d4, .int .u64 d5, .int .u64 d6, .bool d7, .int .u64 d8, .int .u64 d9, .slice Ao57 y281.length co57, .bool false, .int .i64 d12, .int .i64 d13, .bool d14, .string d15]) ?_ 11 _ rfl; exact kb BK277.out) Try.underlying28 rfl (by kernel_rfl) ?_; (case hgd => rfl)) | ((with_reducible refine gate_callee (f := 15) rfl ?_); refine goesL_ (some 86) rfl rfl Try.func15 (by kernel_rfl) rfl #[.agg #[.int .i64 d0, .int .i64 d1, .int .i64 d2, .int .i64 d3, .bool d4, .int .u64 d5, .int .u64 d6, .bool d7, .int .u64 d8, .int .u64 d9, .slice Ao57 y281.length co57, .bool true, .int .i64 a2, .int .i64 x11_2, .bool (decide (x12_22 < (d15.size : Int))), .string (d15.extract (x11_2 : Int).toNat (x12_22 : Int).toNat)]] rfl kA ?_; (with_reducible refine (ipv6_Encode.calls kj22 d0 d1 d2 d3 d4 d5 d6 d7 d8 d9 _ _ y281 true a2 x11_2 (decide (x12_22 < (d15.size : Int))) (d15.extract (x11_2 : Int).toNat (x12_22 : Int).toNat) t284 t285 _ ?side1 ?side2 A30.out).mono ?_); (case side1 => refine (Kd.R_reads' (e := 60) (base := w.heap.size) (ok := fun k_ => True) (n := y281.length) (c := co57) ?_).2.2; exact (by refine kR ?_; exact (Kd.R_mono (Kd.R_puts_11_5 gb277 (.bool true) (.int .i64 a2) (.int .i64 x11_2) (.bool (decide (x12_22 < (d15.size : Int)))) (.string (d15.extract (x11_2 : Int).toNat (x12_22 : Int).toNat)) (Kd.R_types HO283.out BK277.out (by decide)) (fun _ hk => hk.2)) (fun _ h_ => h_.1)))); (case side2 => exact (Kd.R_reads' HO283.out).2.1); rintro e w66 ⟨rfl, hb⟩; refine ⟨_, rfl, ?_⟩; replace HO_10 := As (Kd.S_below (by (with_reducible repeat (first | apply Kd.S_alloc | apply Kd.S_drewN | apply Kd.S_drew)); exact (Kd.S_mono (Kd.S_puts_11_5 gb277 (.bool true) (.int .i64 a2) (.int .i64 x11_2) (.bool (decide (x12_22 < (d15.size : Int)))) (.string (d15.extract (x11_2 : Int).toNat (x12_22 : Int).toNat)) (Kd.S_mono HO_10.out (fun k_ hk => (⟨hk, hk.2.2⟩ : _ ∧ k_ ≠ gb277))) (fun _ hk => hk.2)) (fun _ h_ => h_.1))) hb); replace HO283 := As (Kd.R_below (by refine kR ?_; exact (Kd.R_mono (Kd.R_puts_11_5 gb277 (.bool true) (.int .i64 a2) (.int .i64 x11_2) (.bool (decide (x12_22 < (d15.size : Int)))) (.string (d15.extract (x11_2 : Int).toNat (x12_22 : Int).toNat)) (Kd.R_types HO283.out BK277.out (by decide)) (fun _ hk => hk.2)) (fun _ h_ => h_.1))) hb); replace BK270 := As (blk_below (g := gb270) (o := .cells #[.int .i64 d0, .int .i64 d1, .int .i64 d2, .int .i64 d3, .bool d4, .int .u64 d5, .int .u64 d6, .bool d7, .int .u64 d8, .int .u64 d9, .slice A0_10 l0_10.length c0_10, .bool false, .int .i64 d12, .int .i64 d13, .bool d14, .string d15] 28 (0, 0)) (by refine kb ?_; (iterate 5 (refine blk_far ?_ NB270_277.out _; refine kb ?_)); exact BK270.out) hb); replace BK277 := As (blk_below (g := gb277) (o := .cells #[.int .i64 d0, .int .i64 d1, .int .i64 d2, .int .i64 d3, .bool d4, .int .u64 d5, .int .u64 d6, .bool d7, .int .u64 d8, .int .u64 d9, .slice Ao57 y281.length co57, .bool true, .int .i64 a2, .int .i64 x11_2, .bool (decide (x12_22 < (d15.size : Int))), .string (d15.extract (x11_2 : Int).toNat (x12_22 : Int).toNat)] 28 (0, 0)) (by refine kb ?_; refine blk_put (cs := #[.int .i64 d0, .int .i64 d1, .int .i64 d2, .int .i64 d3, .bool d4, .int .u64 d5, .int .u64 d6, .bool d7, .int .u64 d8, .int .u64 d9, .slice Ao57 y281.length co57, .bool true, .int .i64 a2, .int .i64 x11_2, .bool (decide (x12_22 < (d15.size : Int))), .string d15]) ?_ 15 _ rfl; refine kb ?_; refine blk_put (cs := #[.int .i64 d0, .int .i64 d1, .int .i64 d2, .int .i64 d3, .bool d4, .int .u64 d5, .int .u64 d6, .bool d7, .int .u64 d8, .int .u64 d9, .slice Ao57 y281.length co57, .bool true, .int .i64 a2, .int .i64 x11_2, .bool d14, .string d15]) ?_ 14 _ rfl; refine kb ?_; refine blk_put (cs := #[.int .i64 d0, .int .i64 d1, .int .i64 d2, .int .i64 d3, .bool d4, .int .u64 d5, .int .u64 d6, .bool d7, .int .u64 d8, .int .u64 d9, .slice Ao57 y281.length co57, .bool true, .int .i64 a2, .int .i64 d13, .bool d14, .string d15]) ?_ 13 _ rfl; refine kb ?_; refine blk_put (cs := #[.int .i64 d0, .int .i64 d1, .int .i64 d2, .int .i64 d3, .bool d4, .int .u64 d5, .int .u64 d6, .bool d7, .int .u64 d8, .int .u64 d9, .slice Ao57 y281.length co57, .bool true, .int .i64 d12, .int .i64 d13, .bool d14, .string d15]) ?_ 12 _ rfl; refine kb ?_; refine blk_put (cs := #[.int .i64 d0, .int .i64 d1, .int .i64 d2, .int .i64 d3, .bool d4, .int .u64 d5, .int .u64 d6, .bool d7, .int .u64 d8, .int .u64 d9, .slice Ao57 y281.length co57, .bool false, .int .i64 d12, .int .i64 d13, .bool d14, .string d15]) ?_ 11 _ rfl; exact kb BK277.out) hb); replace HB := As (below_step (kB2 HB.out GE270.out GE277.out) hb); (try clear hb); (try clear hk)) | ((with_reducible refine gate_dst (N := 93) rfl ?_); (try (refine gate_guard (by rfl) ?_; dsimp only)); refine wpList_load_row rfl 28 _ rfl gb277 rfl 28 _ (0, 0) _ (kb BK277.out) Try.underlying28 rfl (by kernel_rfl) ?_) | ((with_reducible refine gate_builtin (b := .append) (xs := #[.tmp 92, .tmp 94]) rfl ?_); (try (refine gate_guard (by rfl) ?_; dsimp only)); at_builtin; refine Kd.S_append k28 (w0 := w) w.heap.size rfl (.tmp 92) (.tmp 94) 38 28 (.agg #[(.int .i64 0), (.int .i64 0), (.int .i64 0), (.int .i64 0), (.bool false), (.int .u64 0), (.int .u64 0), (.bool false), (.int .u64 0), (.int .u64 0), (.slice none 0 0), (.bool false), (.int .i64 0), (.int .i64 0), (.bool false), (.string ⟨#[]⟩)]) 152 rfl Try.underlying38 info28 rfl (by decide) (by omega) u10 x10_2 (⟨d0, d1, d2, d3, (⟨d4, d5, d6⟩ : S25), (⟨d7, d8, d9⟩ : S25), y281, true, a2, x11_2, decide (x12_22 < (d15.size : Int)), d15.extract (x11_2 : Int).toNat (x12_22 : Int).toNat⟩ : S28) [.int .i64 d0, .int .i64 d1, .int .i64 d2, .int .i64 d3, .bool d4, .int .u64 d5, .int .u64 d6, .bool d7, .int .u64 d8, .int .u64 d9, .slice Ao57 y281.length co57, .bool true, .int .i64 a2, .int .i64 x11_2, .bool (decide (x12_22 < (d15.size : Int))), .string (d15.extract (x11_2 : Int).toNat (x12_22 : Int).toNat)] (fun k_ => k_ ≠ gb270 ∧ k_ ≠ gb277) (fun k_ => some k_ = (.slice Ao57 y281.length co57 : Value).ownBlock) rfl rfl ?aP (fun k_ hk_ => ((Kd.R_mono (ok' := fun k_ => ((fun k_ => k_ ≠ gb270 ∧ k_ ≠ gb277)) k_ ∧ some k_ ≠ (u10 : Value).ownBlock) (Kd.R_types (Kd.R_types (Kd.R_apart' (HO283.out) (Kd.S_typed HO_10.out) (by decide)) BK270.out (by decide)) BK277.out (by decide)) (fun k_ hk => ⟨⟨hk.1.2, hk.2⟩, hk.1.1.2⟩))).1 k_ hk_.symm) ?aF ?aO ?aB ?aS ?aL ?_; (case aP => exact k28_mkM _ _ _ (⟨d0, d1, d2, d3, (⟨d4, d5, d6⟩ : S25), (⟨d7, d8, d9⟩ : S25), y281, true, a2, x11_2, decide (x12_22 < (d15.size : Int)), d15.extract (x11_2 : Int).toNat (x12_22 : Int).toNat⟩ : S28) (Kd.R_mono (Kd.R_tight rfl (Kd.R_mono (ok' := fun k_ => ((fun k_ => k_ ≠ gb270 ∧ k_ ≠ gb277)) k_ ∧ some k_ ≠ (u10 : Value).ownBlock) (Kd.R_types (Kd.R_types (Kd.R_apart' (HO283.out) (Kd.S_typed HO_10.out) (by decide)) BK270.out (by decide)) BK277.out (by decide)) (fun k_ hk => ⟨⟨hk.1.2, hk.2⟩, hk.1.1.2⟩))) (fun _ h_ => h_))); (case aB => exact (kB2 HB.out GE270.out GE277.out)); (case aF => exact (fun k_ hk => ⟨Kd.freshB (kb BK270.out) k_ hk, Kd.freshB (kb BK277.out) k_ hk⟩)); (case aO => exact (by (with_reducible repeat (first | apply Kd.S_alloc | apply Kd.S_drewN | apply Kd.S_drew)); exact Kd.S_mono HO_10.out (fun k_ hk => ⟨⟨hk.2.1, hk.2.2⟩, fun e_ => hk.1 e_⟩))); (case aS => exact (below_size (kB2 HB.out GE270.out GE277.out))); (case aL => have := LMc32.out; omega); intro v287 w67 ho hb hg hat; rw [← Ny286.out] at ho; replace BK270 := As (blk_grown (kb BK270.out) hg (Kd.S_away HO_10.out (fun _ hk => hk.2.1))); replace BK277 := As (blk_grown (kb BK277.out) hg (Kd.S_away HO_10.out (fun _ hk => hk.2.2))); replace HB := As (hb); have HO288 := As (ho); clear HO_10 HO283; clear ho hb hg hat))
             go_roundg kj22
             case measure => have := HJ5.out; have := HK2.out; have := HJ18.out; have := HJ22.out; omega
             case rel => exact ⟨(y286), (x12_22), kS, H', ⟨by have := HJ5.out; have := HK2.out; have := HJ18.out; have := HJ22.out; omega⟩, ⟨by (with_reducible repeat (first | apply Kd.S_alloc | apply Kd.S_drewN | apply Kd.S_drew)); exact Kd.S_mono HO288.out (fun _ hk => hk.1)⟩, ⟨kb BK270.out⟩, ⟨kB2 HB.out GE270.out GE277.out⟩⟩
            rw [if_neg c32] at H
            exact absurd H (by simp)
           rw [if_neg c31] at H
           have c31b0 : (t285 == 0) = false := beq_eq_false_iff_ne.mpr c31
           have c31b1 : (t285 != 0) = true := bne_iff_ne.mpr c31
           simp only [Option.some.injEq, Prod.mk.injEq] at H
           obtain ⟨rfl, rfl⟩ := H
           try go_wp2_with (first | ((with_reducible refine gate_dst (N := 61) rfl ?_); (try (refine gate_guard (by rfl) ?_; dsimp only)); refine wpList_load_row rfl 28 _ rfl gb270 rfl 28 _ (0, 0) _ (kb BK270.out) Try.underlying28 rfl (by kernel_rfl) ?_) | ((with_reducible refine gate_dst (N := 13) rfl ?_); (try (refine gate_guard (by rfl) ?_; dsimp only)); refine box_event rfl (N := 13) rfl (cs := #[.int .i64 0, .int .i64 0, .int .i64 0, .int .i64 0, .bool false, .int .u64 0, .int .u64 0, .bool false, .int .u64 0, .int .u64 0, .slice none 0 0, .bool false, .int .i64 0, .int .i64 0, .bool false, .string (⟨#[]⟩ : ByteArray)]) (t := 28) kG ?_; intro gb277 hg w68 hbox hb; replace HO_10 := As (Kd.S_below (Kd.S_elderB (by (with_reducible repeat (first | apply Kd.S_alloc | apply Kd.S_drewN | apply Kd.S_drew)); exact HO_10.out) gb277 (Nat.le_of_eq hg.symm)) hb); have BK277 := As (hbox); have GW277 := As ((by rw [hg]; exact (below_size (kB1 HB.out GE270.out)) : w.heap.size ≤ gb277)); have GE277 := As ((by rw [hg]; exact (below_size (kB1 HB.out GE270.out)) : w.heap.size ≤ gb277)); replace HB := As (below_step (kB1 HB.out GE270.out) hb); have NB270_277 := As ((by rw [hg]; exact Nat.ne_of_lt (blk_lt (kb BK270.out)) : gb270 ≠ gb277)); have NB277_270 := As ((by rw [hg]; exact Nat.ne_of_gt (blk_lt (kb BK270.out)) : gb277 ≠ gb270)); replace BK270 := As (blk_below (kb BK270.out) hb); clear hb hbox hg) | ((with_reducible refine gate_store (t := 28) (p := 13) rfl ?_); refine store_rowev_16 gb277 (.int .i64 d0) (.int .i64 d1) (.int .i64 d2) (.int .i64 d3) (.bool d4) (.int .u64 d5) (.int .u64 d6) (.bool d7) (.int .u64 d8) (.int .u64 d9) (.slice A0_10 l0_10.length c0_10) (.bool false) (.int .i64 d12) (.int .i64 d13) (.bool d14) (.string d15) rfl (t := 28) (p := 13) (v := _) rfl rfl rfl rfl (t' := 28) (kb BK277.out) (by rfl) (by kernel_rfl) (by rfl) ?_) | ((with_reducible refine gate_dst (N := 62) rfl ?_); (try (refine gate_guard (by rfl) ?_; dsimp only)); refine Kd.R_lit k60 _ 60 rfl (N := 62) rfl (xs := ([] : List (S60))) (inner := []) (ok := fun _ => True) (okp := fun _ => True) kG ?hp (fun _ hk => hk) trivial (Below.refl _ _) (Nat.le_refl _) (by simp) ?_; (case hp => exact (Reps.none _ _)); intro v279 w69 ho70 hb hg_ hnew_; clear hg_ hnew_; (first | rw [← Ny278.out] at ho70 | (simp only [Int.reduceToNat] at ho70; rw [← Ny278.out] at ho70)); replace HO_10 := As (Kd.S_elder' (by (with_reducible repeat (first | apply Kd.S_alloc | apply Kd.S_drewN | apply Kd.S_drew)); exact (Kd.S_mono (Kd.S_puts_0_16 gb277 (.int .i64 d0) (.int .i64 d1) (.int .i64 d2) (.int .i64 d3) (.bool d4) (.int .u64 d5) (.int .u64 d6) (.bool d7) (.int .u64 d8) (.int .u64 d9) (.slice A0_10 l0_10.length c0_10) (.bool false) (.int .i64 d12) (.int .i64 d13) (.bool d14) (.string d15) (Kd.S_mono HO_10.out (fun k_ hk => (⟨hk, hk.2⟩ : _ ∧ k_ ≠ gb277))) (fun _ hk => hk.2)) (fun _ h_ => h_.1))) (Kd.R_base ho70) hb); have HO280 := As (Kd.R_lower ho70 (below_size (kB2 HB.out GE270.out GE277.out))); replace BK270 := As (blk_below (g := gb270) (o := .cells #[.int .i64 d0, .int .i64 d1, .int .i64 d2, .int .i64 d3, .bool d4, .int .u64 d5, .int .u64 d6, .bool d7, .int .u64 d8, .int .u64 d9, .slice A0_10 l0_10.length c0_10, .bool false, .int .i64 d12, .int .i64 d13, .bool d14, .string d15] 28 (0, 0)) (by refine kb ?_; (iterate 16 (refine blk_far ?_ NB270_277.out _; refine kb ?_)); exact BK270.out) hb); replace BK277 := As (blk_below (g := gb277) (o := .cells #[.int .i64 d0, .int .i64 d1, .int .i64 d2, .int .i64 d3, .bool d4, .int .u64 d5, .int .u64 d6, .bool d7, .int .u64 d8, .int .u64 d9, .slice A0_10 l0_10.length c0_10, .bool false, .int .i64 d12, .int .i64 d13, .bool d14, .string d15] 28 (0, 0)) (by refine kb ?_; exact blk_all_16 (kb BK277.out) (by rfl)) hb); replace HB := As (below_step (kB2 HB.out GE270.out GE277.out) hb); clear hb ho70; have hnb71 := NB270_277.out; have hnc71 := NB277_270.out; have hcz72_0 := cells_16 BK270.out; have hfz72_0 := fun j_ => blk_frozen BK270.out j_) | ((with_reducible refine gate_builtin (b := .append) (xs := #[.tmp 62, .tmp 64]) rfl ?_); (try (refine gate_guard (by rfl) ?_; dsimp only)); at_builtin; refine Kd.R_append_rows k60 (w0 := w) w.heap.size rfl (.tmp 62) (.tmp 64) 26 60 (.agg #[(.int .i64 0), (.string ⟨#[]⟩)]) 24 rfl Try.underlying26 info60 rfl (by decide) (by omega) v279 y278 l0_10 _ _ _ (fun _ => True) (fun _ => False) rfl rfl ?aO ?aR (fun _ _ h => h) (fun _ h => h.elim) ?aF ?aB ?aS ?aL ?_; (case aR => repeat (first | exact (Kd.C_below HR0_10.out HB.out) | (with_reducible refine Kd.C_alloc ?_ _) | (with_reducible refine Kd.C_drewN ?_ _) | (with_reducible refine Kd.C_drew ?_))); (case aB => exact (kB2 HB.out GE270.out GE277.out)); (case aF => exact (fun _ _ => trivial)); (case aO => exact (kR HO280.out)); (case aS => exact (below_size (kB2 HB.out GE270.out GE277.out))); (case aL => have := LMc26.out; omega); intro v282 w73 ho hb hg hat; rw [← Ny281.out] at ho; replace HO_10 := As (Kd.S_after (ok := (fun k_ => k_ ≠ gb270 ∧ k_ ≠ gb277)) (by (with_reducible repeat (first | apply Kd.S_alloc | apply Kd.S_drewN | apply Kd.S_drew)); exact HO_10.out) hg hat); replace BK270 := As (blk_grown (kb BK270.out) hg (Kd.R_ne HO280.out BK270.out (by decide))); replace BK277 := As (blk_grown (kb BK277.out) hg (Kd.R_ne HO280.out BK277.out (by decide))); replace HB := As (hb); have HO283 := As (ho); clear HO280; clear ho hb hg hat; obtain ⟨Ao74, co74, eo74⟩ := Kd.R_slice HO283.out; subst eo74; have hcz75_0 := cells_16 BK277.out; have hfz75_0 := fun j_ => blk_frozen BK277.out j_))
           have n0_ : Aside0 (Kd.S k28 28 (w73.setCell ⟨gb277, 10, none⟩ (.slice Ao74 y281.length co74)) w.heap.size (fun k_ => some k_ ≠ (.slice Ao74 y281.length co74 : Value).ownBlock ∧ k_ ≠ gb270 ∧ k_ ≠ gb277) u10 x10_2) := ⟨by (with_reducible repeat (first | apply Kd.S_alloc | apply Kd.S_drewN | apply Kd.S_drew)); exact Kd.S_mono (Kd.S_far (p := ⟨gb277, 10, none⟩) (Kd.S_mono HO_10.out (fun k_ hk => (⟨hk, hk.1.2⟩ : _ ∧ k_ ≠ gb277))) (fun _ hk => hk.2) (.slice Ao74 y281.length co74)) (fun _ hk => ⟨hk.1.2, ⟨hk.1.1.1, hk.1.1.2⟩⟩)⟩
           have n1_ : Aside0 (Kd.R k60 60 (w73.setCell ⟨gb277, 10, none⟩ (.slice Ao74 y281.length co74)) w.heap.size (fun _ => True) (.slice Ao74 y281.length co74) y281) := ⟨by (with_reducible repeat (first | apply Kd.R_alloc | apply Kd.R_drewN | apply Kd.R_drew)); exact Kd.R_mono (Kd.R_far (p := ⟨gb277, 10, none⟩) (Kd.R_types HO283.out BK277.out (by decide)) (fun _ hk => hk.2) (.slice Ao74 y281.length co74)) (fun _ hk => trivial)⟩
           have n2_ : Aside0 ((w73.setCell ⟨gb277, 10, none⟩ (.slice Ao74 y281.length co74)).heap[gb270]? = some (.cells #[.int .i64 d0, .int .i64 d1, .int .i64 d2, .int .i64 d3, .bool d4, .int .u64 d5, .int .u64 d6, .bool d7, .int .u64 d8, .int .u64 d9, .slice A0_10 l0_10.length c0_10, .bool false, .int .i64 d12, .int .i64 d13, .bool d14, .string d15] 28 (0, 0))) := ⟨by refine kb ?_; refine blk_far ?_ NB270_277.out _; exact kb BK270.out⟩
           have n3_ : Aside0 ((w73.setCell ⟨gb277, 10, none⟩ (.slice Ao74 y281.length co74)).heap[gb277]? = some (.cells #[.int .i64 d0, .int .i64 d1, .int .i64 d2, .int .i64 d3, .bool d4, .int .u64 d5, .int .u64 d6, .bool d7, .int .u64 d8, .int .u64 d9, .slice Ao74 y281.length co74, .bool false, .int .i64 d12, .int .i64 d13, .bool d14, .string d15] 28 (0, 0))) := ⟨by refine kb ?_; refine blk_put (cs := #[.int .i64 d0, .int .i64 d1, .int .i64 d2, .int .i64 d3, .bool d4, .int .u64 d5, .int .u64 d6, .bool d7, .int .u64 d8, .int .u64 d9, .slice A0_10 l0_10.length c0_10, .bool false, .int .i64 d12, .int .i64 d13, .bool d14, .string d15]) ?_ 10 _ rfl; exact kb BK277.out⟩
           have n4_ : Aside0 (Below w.heap.size w (w73.setCell ⟨gb277, 10, none⟩ (.slice Ao74 y281.length co74))) := ⟨kB2 HB.out GE270.out GE277.out⟩
           (try clear HO_10)
           (try clear HO283)
           (try clear BK270)
           (try clear BK277)
           (try clear HB)
           generalize (w73.setCell ⟨gb277, 10, none⟩ (.slice Ao74 y281.length co74)) = w76 at n0_ n1_ n2_ n3_ n4_ ⊢
           have HO_10 := n0_
           have HO283 := n1_
           have BK270 := n2_
           have BK277 := n3_
           have HB := n4_
           clear n0_ n1_ n2_ n3_ n4_
           replace HO_10 := As (Kd.S_drew HO_10.out)
           replace HO283 := As (Kd.R_drew HO283.out)
           replace BK270 := As (blk_drew BK270.out)
           replace BK277 := As (blk_drew BK277.out)
           replace HB := As (below_drew1 HB.out)
           refine start_ (n := 22) (S := fun w' => w'.cell? ⟨gb270, 0, none⟩ = some (.int .i64 d0) ∧ w'.cell? ⟨gb270, 1, none⟩ = some (.int .i64 d1) ∧ w'.cell? ⟨gb270, 2, none⟩ = some (.int .i64 d2) ∧ w'.cell? ⟨gb270, 3, none⟩ = some (.int .i64 d3) ∧ w'.cell? ⟨gb270, 4, none⟩ = some (.bool d4) ∧ w'.cell? ⟨gb270, 5, none⟩ = some (.int .u64 d5) ∧ w'.cell? ⟨gb270, 6, none⟩ = some (.int .u64 d6) ∧ w'.cell? ⟨gb270, 7, none⟩ = some (.bool d7) ∧ w'.cell? ⟨gb270, 8, none⟩ = some (.int .u64 d8) ∧ w'.cell? ⟨gb270, 9, none⟩ = some (.int .u64 d9) ∧ w'.cell? ⟨gb270, 10, none⟩ = some (.slice A0_10 l0_10.length c0_10) ∧ w'.cell? ⟨gb270, 11, none⟩ = some (.bool false) ∧ w'.cell? ⟨gb270, 12, none⟩ = some (.int .i64 d12) ∧ w'.cell? ⟨gb270, 13, none⟩ = some (.int .i64 d13) ∧ w'.cell? ⟨gb270, 14, none⟩ = some (.bool d14) ∧ w'.cell? ⟨gb270, 15, none⟩ = some (.string d15)) (ds := []) #[false, false, false, false, false, false, false, false, false, false, false, false, false, false, false, false, false, false, false, false, false, false] (by kernel_rfl) rfl rfl ⟨(blk_cell BK270.out 0).trans rfl, (blk_cell BK270.out 1).trans rfl, (blk_cell BK270.out 2).trans rfl, (blk_cell BK270.out 3).trans rfl, (blk_cell BK270.out 4).trans rfl, (blk_cell BK270.out 5).trans rfl, (blk_cell BK270.out 6).trans rfl, (blk_cell BK270.out 7).trans rfl, (blk_cell BK270.out 8).trans rfl, (blk_cell BK270.out 9).trans rfl, (blk_cell BK270.out 10).trans rfl, (blk_cell BK270.out 11).trans rfl, (blk_cell BK270.out 12).trans rfl, (blk_cell BK270.out 13).trans rfl, (blk_cell BK270.out 14).trans rfl, (blk_cell BK270.out 15).trans rfl⟩ (fun hHeld => ?_); refine with_tabW ipv6_Split.tab16 ipv6_Split.bits16 (fun HT_ HW_ => ?_)
           generalize w76.drew = w77 at HO_10 HO283 BK270 BK277 HB hHeld ⊢
           refine kP 0 67 #[true, false, false, false, false, false, false, false, false, false, false, false, false, false, false, false, false, false, false, false, false, false] ?_ (any_of HT_.out (by kernel_rfl))
           refine kP 1 68 #[true, true, false, false, false, false, false, false, false, false, false, false, false, false, false, false, false, false, false, false, false, false] ?_ (any_of HT_.out (by kernel_rfl))
           refine kP 2 69 #[true, true, true, false, false, false, false, false, false, false, false, false, false, false, false, false, false, false, false, false, false, false] ?_ (any_of HT_.out (by kernel_rfl))
           refine kP 3 70 #[true, true, true, true, false, false, false, false, false, false, false, false, false, false, false, false, false, false, false, false, false, false] ?_ (any_of HT_.out (by kernel_rfl))
           refine kP 7 74 #[true, true, true, true, false, false, false, true, false, false, false, false, false, false, false, false, false, false, false, false, false, false] ?_ (any_of HT_.out (by kernel_rfl))
           refine kP 9 76 #[true, true, true, true, false, false, false, true, false, true, false, false, false, false, false, false, false, false, false, false, false, false] ?_ (any_of HT_.out (by kernel_rfl))
           refine kP 10 77 #[true, true, true, true, false, false, false, true, false, true, true, false, false, false, false, false, false, false, false, false, false, false] ?_ (any_of HT_.out (by kernel_rfl))
           refine kP 12 79 #[true, true, true, true, false, false, false, true, false, true, true, false, true, false, false, false, false, false, false, false, false, false] ?_ (any_of HT_.out (by kernel_rfl))
           refine take_ (i := 4) (N := some 71) (v := ?_) (a' := ?_) #[true, true, true, true, true, false, false, true, false, true, true, false, true, false, false, false, false, false, false, false, false, false] rfl rfl (take_ofW HT_.out HW_.out (by kernel_rfl)) (fun _ _ _ h => h) (Or.inl ⟨by rfl, ?_⟩) hHeld ?_ ?_
           rotate_left
           ·rintro w' ⟨s0, s1, s2, s3, s4, s5, s6, s7, s8, s9, s10, s11, s12, s13, s14, s15⟩
            go_simp
            with_reducible rfl
           rotate_left
           ·simp only [Act.put, sA, sZ, sS, i64_w, i32_w]
            rfl
           refine kP 5 72 #[true, true, true, true, true, true, false, true, false, true, true, false, true, false, false, false, false, false, false, false, false, false] ?_ (any_of HT_.out (by kernel_rfl))
           refine kP 6 73 #[true, true, true, true, true, true, true, true, false, true, true, false, true, false, false, false, false, false, false, false, false, false] ?_ (any_of HT_.out (by kernel_rfl))
           refine take_ (i := 8) (N := some 75) (v := ?_) (a' := ?_) #[true, true, true, true, true, true, true, true, true, true, true, false, true, false, false, false, false, false, false, false, false, false] rfl rfl (take_ofW HT_.out HW_.out (by kernel_rfl)) (fun _ _ _ h => h) (Or.inl ⟨by rfl, ?_⟩) hHeld ?_ ?_
           rotate_left
           ·rintro w' ⟨s0, s1, s2, s3, s4, s5, s6, s7, s8, s9, s10, s11, s12, s13, s14, s15⟩
            go_simp
            with_reducible rfl
           rotate_left
           ·simp only [Act.put, sA, sZ, sS, i64_w, i32_w]
            rfl
           refine kP 11 78 #[true, true, true, true, true, true, true, true, true, true, true, true, true, false, false, false, false, false, false, false, false, false] ?_ (any_of HT_.out (by kernel_rfl))
           refine one_ (i := 13) (N := none) #[true, true, true, true, true, true, true, true, true, true, true, true, true, true, false, false, false, false, false, false, false, false] rfl rfl (one_of HT_.out (by kernel_rfl)) (by decide) (fun K hK => ?_)
           have hs78 : w77.cell? ⟨gb277, 11, none⟩ = some (.bool false) := (blk_cell BK277.out 11).trans rfl
           have hfs78 := blk_frozen BK277.out 11
           have hns78_0 := NB270_277.out
           have hms78_0 := NB277_270.out
           refine skip_ (w1 := ?_) (by rfl) rfl ?_ ?_
           rotate_left
           ·go_simp
            rfl
           refine hK.out _ _ ⟨((cell_far (p := ⟨gb277, _, none⟩) NB270_277.out _).trans (hHeld.1)), ((cell_far (p := ⟨gb277, _, none⟩) NB270_277.out _).trans (hHeld.2.1)), ((cell_far (p := ⟨gb277, _, none⟩) NB270_277.out _).trans (hHeld.2.2.1)), ((cell_far (p := ⟨gb277, _, none⟩) NB270_277.out _).trans (hHeld.2.2.2.1)), ((cell_far (p := ⟨gb277, _, none⟩) NB270_277.out _).trans (hHeld.2.2.2.2.1)), ((cell_far (p := ⟨gb277, _, none⟩) NB270_277.out _).trans (hHeld.2.2.2.2.2.1)), ((cell_far (p := ⟨gb277, _, none⟩) NB270_277.out _).trans (hHeld.2.2.2.2.2.2.1)), ((cell_far (p := ⟨gb277, _, none⟩) NB270_277.out _).trans (hHeld.2.2.2.2.2.2.2.1)), ((cell_far (p := ⟨gb277, _, none⟩) NB270_277.out _).trans (hHeld.2.2.2.2.2.2.2.2.1)), ((cell_far (p := ⟨gb277, _, none⟩) NB270_277.out _).trans (hHeld.2.2.2.2.2.2.2.2.2.1)), ((cell_far (p := ⟨gb277, _, none⟩) NB270_277.out _).trans (hHeld.2.2.2.2.2.2.2.2.2.2.1)), ((cell_far (p := ⟨gb277, _, none⟩) NB270_277.out _).trans (hHeld.2.2.2.2.2.2.2.2.2.2.2.1)), ((cell_far (p := ⟨gb277, _, none⟩) NB270_277.out _).trans (hHeld.2.2.2.2.2.2.2.2.2.2.2.2.1)), ((cell_far (p := ⟨gb277, _, none⟩) NB270_277.out _).trans (hHeld.2.2.2.2.2.2.2.2.2.2.2.2.2.1)), ((cell_far (p := ⟨gb277, _, none⟩) NB270_277.out _).trans (hHeld.2.2.2.2.2.2.2.2.2.2.2.2.2.2.1)), ((cell_far (p := ⟨gb277, _, none⟩) NB270_277.out _).trans (hHeld.2.2.2.2.2.2.2.2.2.2.2.2.2.2.2))⟩ (fun hHeld => ?_)
           clear hK K
           refine kP 14 80 #[true, true, true, true, true, true, true, true, true, true, true, true, true, true, true, false, false, false, false, false, false, false] ?_ (any_of HT_.out (by kernel_rfl))
           refine one_ (i := 15) (N := none) #[true, true, true, true, true, true, true, true, true, true, true, true, true, true, true, true, false, false, false, false, false, false] rfl rfl (one_of HT_.out (by kernel_rfl)) (by decide) (fun K hK => ?_)
           have hs79 : w77.cell? ⟨gb277, 12, none⟩ = some (.int .i64 d12) := (blk_cell BK277.out 12).trans rfl
           have hfs79 := blk_frozen BK277.out 12
           have hns79_0 := NB270_277.out
           have hms79_0 := NB277_270.out
           refine skip_ (w1 := ?_) (by rfl) rfl ?_ ?_
           rotate_left
           ·go_simp
            rfl
           refine hK.out _ _ ⟨((cell_far (p := ⟨gb277, _, none⟩) NB270_277.out _).trans (hHeld.1)), ((cell_far (p := ⟨gb277, _, none⟩) NB270_277.out _).trans (hHeld.2.1)), ((cell_far (p := ⟨gb277, _, none⟩) NB270_277.out _).trans (hHeld.2.2.1)), ((cell_far (p := ⟨gb277, _, none⟩) NB270_277.out _).trans (hHeld.2.2.2.1)), ((cell_far (p := ⟨gb277, _, none⟩) NB270_277.out _).trans (hHeld.2.2.2.2.1)), ((cell_far (p := ⟨gb277, _, none⟩) NB270_277.out _).trans (hHeld.2.2.2.2.2.1)), ((cell_far (p := ⟨gb277, _, none⟩) NB270_277.out _).trans (hHeld.2.2.2.2.2.2.1)), ((cell_far (p := ⟨gb277, _, none⟩) NB270_277.out _).trans (hHeld.2.2.2.2.2.2.2.1)), ((cell_far (p := ⟨gb277, _, none⟩) NB270_277.out _).trans (hHeld.2.2.2.2.2.2.2.2.1)), ((cell_far (p := ⟨gb277, _, none⟩) NB270_277.out _).trans (hHeld.2.2.2.2.2.2.2.2.2.1)), ((cell_far (p := ⟨gb277, _, none⟩) NB270_277.out _).trans (hHeld.2.2.2.2.2.2.2.2.2.2.1)), ((cell_far (p := ⟨gb277, _, none⟩) NB270_277.out _).trans (hHeld.2.2.2.2.2.2.2.2.2.2.2.1)), ((cell_far (p := ⟨gb277, _, none⟩) NB270_277.out _).trans (hHeld.2.2.2.2.2.2.2.2.2.2.2.2.1)), ((cell_far (p := ⟨gb277, _, none⟩) NB270_277.out _).trans (hHeld.2.2.2.2.2.2.2.2.2.2.2.2.2.1)), ((cell_far (p := ⟨gb277, _, none⟩) NB270_277.out _).trans (hHeld.2.2.2.2.2.2.2.2.2.2.2.2.2.2.1)), ((cell_far (p := ⟨gb277, _, none⟩) NB270_277.out _).trans (hHeld.2.2.2.2.2.2.2.2.2.2.2.2.2.2.2))⟩ (fun hHeld => ?_)
           clear hK K
           refine kP 16 81 #[true, true, true, true, true, true, true, true, true, true, true, true, true, true, true, true, true, false, false, false, false, false] ?_ (any_of HT_.out (by kernel_rfl))
           refine one_ (i := 17) (N := none) #[true, true, true, true, true, true, true, true, true, true, true, true, true, true, true, true, true, true, false, false, false, false] rfl rfl (one_of HT_.out (by kernel_rfl)) (by decide) (fun K hK => ?_)
           have hs80 : w77.cell? ⟨gb277, 13, none⟩ = some (.int .i64 d13) := (blk_cell BK277.out 13).trans rfl
           have hfs80 := blk_frozen BK277.out 13
           have hns80_0 := NB270_277.out
           have hms80_0 := NB277_270.out
           refine skip_ (w1 := ?_) (by rfl) rfl ?_ ?_
           rotate_left
           ·go_simp
            rfl
           refine hK.out _ _ ⟨((cell_far (p := ⟨gb277, _, none⟩) NB270_277.out _).trans (hHeld.1)), ((cell_far (p := ⟨gb277, _, none⟩) NB270_277.out _).trans (hHeld.2.1)), ((cell_far (p := ⟨gb277, _, none⟩) NB270_277.out _).trans (hHeld.2.2.1)), ((cell_far (p := ⟨gb277, _, none⟩) NB270_277.out _).trans (hHeld.2.2.2.1)), ((cell_far (p := ⟨gb277, _, none⟩) NB270_277.out _).trans (hHeld.2.2.2.2.1)), ((cell_far (p := ⟨gb277, _, none⟩) NB270_277.out _).trans (hHeld.2.2.2.2.2.1)), ((cell_far (p := ⟨gb277, _, none⟩) NB270_277.out _).trans (hHeld.2.2.2.2.2.2.1)), ((cell_far (p := ⟨gb277, _, none⟩) NB270_277.out _).trans (hHeld.2.2.2.2.2.2.2.1)), ((cell_far (p := ⟨gb277, _, none⟩) NB270_277.out _).trans (hHeld.2.2.2.2.2.2.2.2.1)), ((cell_far (p := ⟨gb277, _, none⟩) NB270_277.out _).trans (hHeld.2.2.2.2.2.2.2.2.2.1)), ((cell_far (p := ⟨gb277, _, none⟩) NB270_277.out _).trans (hHeld.2.2.2.2.2.2.2.2.2.2.1)), ((cell_far (p := ⟨gb277, _, none⟩) NB270_277.out _).trans (hHeld.2.2.2.2.2.2.2.2.2.2.2.1)), ((cell_far (p := ⟨gb277, _, none⟩) NB270_277.out _).trans (hHeld.2.2.2.2.2.2.2.2.2.2.2.2.1)), ((cell_far (p := ⟨gb277, _, none⟩) NB270_277.out _).trans (hHeld.2.2.2.2.2.2.2.2.2.2.2.2.2.1)), ((cell_far (p := ⟨gb277, _, none⟩) NB270_277.out _).trans (hHeld.2.2.2.2.2.2.2.2.2.2.2.2.2.2.1)), ((cell_far (p := ⟨gb277, _, none⟩) NB270_277.out _).trans (hHeld.2.2.2.2.2.2.2.2.2.2.2.2.2.2.2))⟩ (fun hHeld => ?_)
           clear hK K
           refine kP 18 82 #[true, true, true, true, true, true, true, true, true, true, true, true, true, true, true, true, true, true, true, false, false, false] ?_ (any_of HT_.out (by kernel_rfl))
           refine one_ (i := 19) (N := none) #[true, true, true, true, true, true, true, true, true, true, true, true, true, true, true, true, true, true, true, true, false, false] rfl rfl (one_of HT_.out (by kernel_rfl)) (by decide) (fun K hK => ?_)
           have hs81 : w77.cell? ⟨gb277, 14, none⟩ = some (.bool d14) := (blk_cell BK277.out 14).trans rfl
           have hfs81 := blk_frozen BK277.out 14
           have hns81_0 := NB270_277.out
           have hms81_0 := NB277_270.out
           refine skip_ (w1 := ?_) (by rfl) rfl ?_ ?_
           rotate_left
           ·go_simp
            rfl
           refine hK.out _ _ ⟨((cell_far (p := ⟨gb277, _, none⟩) NB270_277.out _).trans (hHeld.1)), ((cell_far (p := ⟨gb277, _, none⟩) NB270_277.out _).trans (hHeld.2.1)), ((cell_far (p := ⟨gb277, _, none⟩) NB270_277.out _).trans (hHeld.2.2.1)), ((cell_far (p := ⟨gb277, _, none⟩) NB270_277.out _).trans (hHeld.2.2.2.1)), ((cell_far (p := ⟨gb277, _, none⟩) NB270_277.out _).trans (hHeld.2.2.2.2.1)), ((cell_far (p := ⟨gb277, _, none⟩) NB270_277.out _).trans (hHeld.2.2.2.2.2.1)), ((cell_far (p := ⟨gb277, _, none⟩) NB270_277.out _).trans (hHeld.2.2.2.2.2.2.1)), ((cell_far (p := ⟨gb277, _, none⟩) NB270_277.out _).trans (hHeld.2.2.2.2.2.2.2.1)), ((cell_far (p := ⟨gb277, _, none⟩) NB270_277.out _).trans (hHeld.2.2.2.2.2.2.2.2.1)), ((cell_far (p := ⟨gb277, _, none⟩) NB270_277.out _).trans (hHeld.2.2.2.2.2.2.2.2.2.1)), ((cell_far (p := ⟨gb277, _, none⟩) NB270_277.out _).trans (hHeld.2.2.2.2.2.2.2.2.2.2.1)), ((cell_far (p := ⟨gb277, _, none⟩) NB270_277.out _).trans (hHeld.2.2.2.2.2.2.2.2.2.2.2.1)), ((cell_far (p := ⟨gb277, _, none⟩) NB270_277.out _).trans (hHeld.2.2.2.2.2.2.2.2.2.2.2.2.1)), ((cell_far (p := ⟨gb277, _, none⟩) NB270_277.out _).trans (hHeld.2.2.2.2.2.2.2.2.2.2.2.2.2.1)), ((cell_far (p := ⟨gb277, _, none⟩) NB270_277.out _).trans (hHeld.2.2.2.2.2.2.2.2.2.2.2.2.2.2.1)), ((cell_far (p := ⟨gb277, _, none⟩) NB270_277.out _).trans (hHeld.2.2.2.2.2.2.2.2.2.2.2.2.2.2.2))⟩ (fun hHeld => ?_)
           clear hK K
           refine kP 20 83 #[true, true, true, true, true, true, true, true, true, true, true, true, true, true, true, true, true, true, true, true, true, false] ?_ (any_of HT_.out (by kernel_rfl))
           refine one_ (i := 21) (N := none) #[true, true, true, true, true, true, true, true, true, true, true, true, true, true, true, true, true, true, true, true, true, true] rfl rfl (one_of HT_.out (by kernel_rfl)) (by decide) (fun K hK => ?_)
           have hs82 : w77.cell? ⟨gb277, 15, none⟩ = some (.string d15) := (blk_cell BK277.out 15).trans rfl
           have hfs82 := blk_frozen BK277.out 15
           have hns82_0 := NB270_277.out
           have hms82_0 := NB277_270.out
           refine skip_ (w1 := ?_) (by rfl) rfl ?_ ?_
           rotate_left
           ·go_simp
            rfl
           refine hK.out _ _ ⟨((cell_far (p := ⟨gb277, _, none⟩) NB270_277.out _).trans (hHeld.1)), ((cell_far (p := ⟨gb277, _, none⟩) NB270_277.out _).trans (hHeld.2.1)), ((cell_far (p := ⟨gb277, _, none⟩) NB270_277.out _).trans (hHeld.2.2.1)), ((cell_far (p := ⟨gb277, _, none⟩) NB270_277.out _).trans (hHeld.2.2.2.1)), ((cell_far (p := ⟨gb277, _, none⟩) NB270_277.out _).trans (hHeld.2.2.2.2.1)), ((cell_far (p := ⟨gb277, _, none⟩) NB270_277.out _).trans (hHeld.2.2.2.2.2.1)), ((cell_far (p := ⟨gb277, _, none⟩) NB270_277.out _).trans (hHeld.2.2.2.2.2.2.1)), ((cell_far (p := ⟨gb277, _, none⟩) NB270_277.out _).trans (hHeld.2.2.2.2.2.2.2.1)), ((cell_far (p := ⟨gb277, _, none⟩) NB270_277.out _).trans (hHeld.2.2.2.2.2.2.2.2.1)), ((cell_far (p := ⟨gb277, _, none⟩) NB270_277.out _).trans (hHeld.2.2.2.2.2.2.2.2.2.1)), ((cell_far (p := ⟨gb277, _, none⟩) NB270_277.out _).trans (hHeld.2.2.2.2.2.2.2.2.2.2.1)), ((cell_far (p := ⟨gb277, _, none⟩) NB270_277.out _).trans (hHeld.2.2.2.2.2.2.2.2.2.2.2.1)), ((cell_far (p := ⟨gb277, _, none⟩) NB270_277.out _).trans (hHeld.2.2.2.2.2.2.2.2.2.2.2.2.1)), ((cell_far (p := ⟨gb277, _, none⟩) NB270_277.out _).trans (hHeld.2.2.2.2.2.2.2.2.2.2.2.2.2.1)), ((cell_far (p := ⟨gb277, _, none⟩) NB270_277.out _).trans (hHeld.2.2.2.2.2.2.2.2.2.2.2.2.2.2.1)), ((cell_far (p := ⟨gb277, _, none⟩) NB270_277.out _).trans (hHeld.2.2.2.2.2.2.2.2.2.2.2.2.2.2.2))⟩ (fun hHeld => ?_)
           clear hK K
           refine done_ (done_of HT_.out (by kernel_rfl)) ?_
           try go_wp2_with (first | ((with_reducible refine gate_dst (N := 85) rfl ?_); (try (refine gate_guard (by rfl) ?_; dsimp only)); refine wpList_load_row ?hgd 28 _ rfl gb277 rfl 28 #[.int .i64 d0, .int .i64 d1, .int .i64 d2, .int .i64 d3, .bool d4, .int .u64 d5, .int .u64 d6, .bool d7, .int .u64 d8, .int .u64 d9, .slice Ao74 y281.length co74, .bool true, .int .i64 a2, .int .i64 x11_2, .bool (decide (x12_22 < (d15.size : Int))), .string (d15.extract (x11_2 : Int).toNat (x12_22 : Int).toNat)] (0, 0) _ (by refine kb ?_; refine blk_put (cs := #[.int .i64 d0, .int .i64 d1, .int .i64 d2, .int .i64 d3, .bool d4, .int .u64 d5, .int .u64 d6, .bool d7, .int .u64 d8, .int .u64 d9, .slice Ao74 y281.length co74, .bool true, .int .i64 a2, .int .i64 x11_2, .bool (decide (x12_22 < (d15.size : Int))), .string d15]) ?_ 15 _ rfl; refine kb ?_; refine blk_put (cs := #[.int .i64 d0, .int .i64 d1, .int .i64 d2, .int .i64 d3, .bool d4, .int .u64 d5, .int .u64 d6, .bool d7, .int .u64 d8, .int .u64 d9, .slice Ao74 y281.length co74, .bool true, .int .i64 a2, .int .i64 x11_2, .bool d14, .string d15]) ?_ 14 _ rfl; refine kb ?_; refine blk_put (cs := #[.int .i64 d0, .int .i64 d1, .int .i64 d2, .int .i64 d3, .bool d4, .int .u64 d5, .int .u64 d6, .bool d7, .int .u64 d8, .int .u64 d9, .slice Ao74 y281.length co74, .bool true, .int .i64 a2, .int .i64 d13, .bool d14, .string d15]) ?_ 13 _ rfl; refine kb ?_; refine blk_put (cs := #[.int .i64 d0, .int .i64 d1, .int .i64 d2, .int .i64 d3, .bool d4, .int .u64 d5, .int .u64 d6, .bool d7, .int .u64 d8, .int .u64 d9, .slice Ao74 y281.length co74, .bool true, .int .i64 d12, .int .i64 d13, .bool d14, .string d15]) ?_ 12 _ rfl; refine kb ?_; refine blk_put (cs := #[.int .i64 d0, .int .i64 d1, .int .i64 d2, .int .i64 d3, .bool d4, .int .u64 d5, .int .u64 d6, .bool d7, .int .u64 d8, .int .u64 d9, .slice Ao74 y281.length co74, .bool false, .int .i64 d12, .int .i64 d13, .bool d14, .string d15]) ?_ 11 _ rfl; exact kb BK277.out) Try.underlying28 rfl (by kernel_rfl) ?_; (case hgd => rfl)) | ((with_reducible refine gate_callee (f := 15) rfl ?_); refine goesL_ (some 86) rfl rfl Try.func15 (by kernel_rfl) rfl #[.agg #[.int .i64 d0, .int .i64 d1, .int .i64 d2, .int .i64 d3, .bool d4, .int .u64 d5, .int .u64 d6, .bool d7, .int .u64 d8, .int .u64 d9, .slice Ao74 y281.length co74, .bool true, .int .i64 a2, .int .i64 x11_2, .bool (decide (x12_22 < (d15.size : Int))), .string (d15.extract (x11_2 : Int).toNat (x12_22 : Int).toNat)]] rfl kA ?_; (with_reducible refine (ipv6_Encode.calls kj22 d0 d1 d2 d3 d4 d5 d6 d7 d8 d9 _ _ y281 true a2 x11_2 (decide (x12_22 < (d15.size : Int))) (d15.extract (x11_2 : Int).toNat (x12_22 : Int).toNat) t284 t285 _ ?side1 ?side2 A30.out).mono ?_); (case side1 => refine (Kd.R_reads' (e := 60) (base := w.heap.size) (ok := fun k_ => True) (n := y281.length) (c := co74) ?_).2.2; exact (by refine kR ?_; exact (Kd.R_mono (Kd.R_puts_11_5 gb277 (.bool true) (.int .i64 a2) (.int .i64 x11_2) (.bool (decide (x12_22 < (d15.size : Int)))) (.string (d15.extract (x11_2 : Int).toNat (x12_22 : Int).toNat)) (Kd.R_types HO283.out BK277.out (by decide)) (fun _ hk => hk.2)) (fun _ h_ => h_.1)))); (case side2 => exact (Kd.R_reads' HO283.out).2.1); rintro e w83 ⟨rfl, hb⟩; refine ⟨_, rfl, ?_⟩; replace HO_10 := As (Kd.S_below (by (with_reducible repeat (first | apply Kd.S_alloc | apply Kd.S_drewN | apply Kd.S_drew)); exact (Kd.S_mono (Kd.S_puts_11_5 gb277 (.bool true) (.int .i64 a2) (.int .i64 x11_2) (.bool (decide (x12_22 < (d15.size : Int)))) (.string (d15.extract (x11_2 : Int).toNat (x12_22 : Int).toNat)) (Kd.S_mono HO_10.out (fun k_ hk => (⟨hk, hk.2.2⟩ : _ ∧ k_ ≠ gb277))) (fun _ hk => hk.2)) (fun _ h_ => h_.1))) hb); replace HO283 := As (Kd.R_below (by refine kR ?_; exact (Kd.R_mono (Kd.R_puts_11_5 gb277 (.bool true) (.int .i64 a2) (.int .i64 x11_2) (.bool (decide (x12_22 < (d15.size : Int)))) (.string (d15.extract (x11_2 : Int).toNat (x12_22 : Int).toNat)) (Kd.R_types HO283.out BK277.out (by decide)) (fun _ hk => hk.2)) (fun _ h_ => h_.1))) hb); replace BK270 := As (blk_below (g := gb270) (o := .cells #[.int .i64 d0, .int .i64 d1, .int .i64 d2, .int .i64 d3, .bool d4, .int .u64 d5, .int .u64 d6, .bool d7, .int .u64 d8, .int .u64 d9, .slice A0_10 l0_10.length c0_10, .bool false, .int .i64 d12, .int .i64 d13, .bool d14, .string d15] 28 (0, 0)) (by refine kb ?_; (iterate 5 (refine blk_far ?_ NB270_277.out _; refine kb ?_)); exact BK270.out) hb); replace BK277 := As (blk_below (g := gb277) (o := .cells #[.int .i64 d0, .int .i64 d1, .int .i64 d2, .int .i64 d3, .bool d4, .int .u64 d5, .int .u64 d6, .bool d7, .int .u64 d8, .int .u64 d9, .slice Ao74 y281.length co74, .bool true, .int .i64 a2, .int .i64 x11_2, .bool (decide (x12_22 < (d15.size : Int))), .string (d15.extract (x11_2 : Int).toNat (x12_22 : Int).toNat)] 28 (0, 0)) (by refine kb ?_; refine blk_put (cs := #[.int .i64 d0, .int .i64 d1, .int .i64 d2, .int .i64 d3, .bool d4, .int .u64 d5, .int .u64 d6, .bool d7, .int .u64 d8, .int .u64 d9, .slice Ao74 y281.length co74, .bool true, .int .i64 a2, .int .i64 x11_2, .bool (decide (x12_22 < (d15.size : Int))), .string d15]) ?_ 15 _ rfl; refine kb ?_; refine blk_put (cs := #[.int .i64 d0, .int .i64 d1, .int .i64 d2, .int .i64 d3, .bool d4, .int .u64 d5, .int .u64 d6, .bool d7, .int .u64 d8, .int .u64 d9, .slice Ao74 y281.length co74, .bool true, .int .i64 a2, .int .i64 x11_2, .bool d14, .string d15]) ?_ 14 _ rfl; refine kb ?_; refine blk_put (cs := #[.int .i64 d0, .int .i64 d1, .int .i64 d2, .int .i64 d3, .bool d4, .int .u64 d5, .int .u64 d6, .bool d7, .int .u64 d8, .int .u64 d9, .slice Ao74 y281.length co74, .bool true, .int .i64 a2, .int .i64 d13, .bool d14, .string d15]) ?_ 13 _ rfl; refine kb ?_; refine blk_put (cs := #[.int .i64 d0, .int .i64 d1, .int .i64 d2, .int .i64 d3, .bool d4, .int .u64 d5, .int .u64 d6, .bool d7, .int .u64 d8, .int .u64 d9, .slice Ao74 y281.length co74, .bool true, .int .i64 d12, .int .i64 d13, .bool d14, .string d15]) ?_ 12 _ rfl; refine kb ?_; refine blk_put (cs := #[.int .i64 d0, .int .i64 d1, .int .i64 d2, .int .i64 d3, .bool d4, .int .u64 d5, .int .u64 d6, .bool d7, .int .u64 d8, .int .u64 d9, .slice Ao74 y281.length co74, .bool false, .int .i64 d12, .int .i64 d13, .bool d14, .string d15]) ?_ 11 _ rfl; exact kb BK277.out) hb); replace HB := As (below_step (kB2 HB.out GE270.out GE277.out) hb); (try clear hb); (try clear hk)))
           go_ret2
           exact ⟨_, kE, by first | exact Kd.S_nil _ _ _ _ _ | exact Kd.N_nil _ _ _ _ _ | exact Kd.V_nil _ _ _ _ _ | exact Kd.Q_nil _ _ _ _ _ | exact Kd.R_nil _ _ _ _ _, by exact kB2 HB.out GE270.out GE277.out⟩
          rw [if_neg c29] at H
          exact absurd H (by simp)
         rw [if_neg c28] at H
         exact absurd H (by simp)
        rw [if_neg c27] at H
        exact absurd H (by simp)
       rw [if_neg c26] at H
       exact absurd H (by simp)
     replace c22 := Bool.eq_false_iff.mpr c22
     subst c22
     have H1 : (some (x10_2, 0)) = some (r1, r2) := by rw [if_neg (show ¬ (false = true) by decide)] at H; exact H
     clear H
     have H := H1
     clear H1
     simp only [Option.some.injEq, Prod.mk.injEq] at H
     obtain ⟨rfl, rfl⟩ := H
     go_wp2
     go_ret2
     exact ⟨_, kE, by (with_reducible repeat (first | apply Kd.S_alloc | apply Kd.S_drewN | apply Kd.S_drew)); exact Kd.S_mono HO_10.out (fun _ hk => trivial), by exact kB1 HB.out GE270.out⟩
 rw [if_neg c5] at H
 have c5b0 : (t272 == 0) = false := beq_eq_false_iff_ne.mpr c5
 have c5b1 : (t272 != 0) = true := bne_iff_ne.mpr c5
 simp only [Option.some.injEq, Prod.mk.injEq] at H
 obtain ⟨rfl, rfl⟩ := H
 go_enter Try.func17, Try.ntmps17
 go_wp2_with (first | ((with_reducible refine gate_dst (N := 3) rfl ?_); (try (refine gate_guard (by rfl) ?_; dsimp only)); refine box_event rfl (N := 3) rfl (cs := #[.int .i64 d0, .int .i64 d1, .int .i64 d2, .int .i64 d3, .bool d4, .int .u64 d5, .int .u64 d6, .bool d7, .int .u64 d8, .int .u64 d9, .slice A0_10 l0_10.length c0_10, .bool d11, .int .i64 d12, .int .i64 d13, .bool d14, .string d15]) (t := 28) kG ?_; intro gb270 hg w84 hbox hb; have BK270 := As (hbox); have GW270 := As ((by rw [hg]; exact (below_size (kB HB.out)) : w.heap.size ≤ gb270)); have GE270 := As ((by rw [hg]; exact (below_size (kB HB.out)) : w.heap.size ≤ gb270)); replace HB := As (below_step (kB HB.out) hb); clear hb hbox hg) | ((with_reducible refine gate_dst (N := 17) rfl ?_); (try (refine gate_guard (by rfl) ?_; dsimp only)); refine wpList_load_row rfl 28 _ rfl gb270 rfl 28 _ (0, 0) _ (kb BK270.out) Try.underlying28 rfl (by kernel_rfl) ?_) | ((with_reducible refine gate_callee (f := 15) rfl ?_); refine goesL_ (some 18) rfl rfl Try.func15 (by kernel_rfl) rfl #[.agg #[.int .i64 d0, .int .i64 d1, .int .i64 d2, .int .i64 d3, .bool d4, .int .u64 d5, .int .u64 d6, .bool d7, .int .u64 d8, .int .u64 d9, .slice A0_10 l0_10.length c0_10, .bool d11, .int .i64 d12, .int .i64 d13, .bool d14, .string d15]] rfl kA ?_; (with_reducible refine (ipv6_Encode.calls k d0 d1 d2 d3 d4 d5 d6 d7 d8 d9 _ _ l0_10 d11 d12 d13 d14 d15 t271 t272 _ ?side1 ?side2 A4.out).mono ?_); (case side1 => repeat (first | exact (Kd.C_below HR0_10.out HB.out) | (with_reducible refine Kd.C_alloc ?_ _) | (with_reducible refine Kd.C_drewN ?_ _) | (with_reducible refine Kd.C_drew ?_))); (case side2 => exact HC0_10.out); rintro e w85 ⟨rfl, hb⟩; refine ⟨_, rfl, ?_⟩; replace BK270 := As (blk_below (kb BK270.out) hb); replace HB := As (below_step (kB1 HB.out GE270.out) hb); (try clear hb)))
 go_ret2
 exact ⟨_, kE, by first | exact Kd.S_nil _ _ _ _ _ | exact Kd.N_nil _ _ _ _ _ | exact Kd.V_nil _ _ _ _ _ | exact Kd.Q_nil _ _ _ _ _ | exact Kd.R_nil _ _ _ _ _, by exact kB1 HB.out GE270.out⟩

end Go.Proofs.Ytljboandbjahdaa.X
-- short
