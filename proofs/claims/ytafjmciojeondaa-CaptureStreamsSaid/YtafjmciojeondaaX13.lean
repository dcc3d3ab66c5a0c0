/- Functions and their walks, printed by xprint.py. -/
import Derived.Test.YtafjmciojeondaaX0
import Derived.Test.YtafjmciojeondaaX11
import Derived.Test.YtafjmciojeondaaX12
namespace Go.Proofs.Ytafjmciojeondaa.X
open Go.RowKit Go.Proofs.YtafjmciojeondaaW.PrintWords Go.Proofs.YtafjmciojeondaaW.PrintLast Go.Proofs.YtafjmciojeondaaW.PrintMore
attribute [local go_sem] max2_int min2_int max_two min_two max_three min_three max_four min_four   -- for this text's walks alone
set_option linter.unusedVariables false
set_option linter.unusedSimpArgs false

/-! ### intrusionref09_Reader_Feed: function 23 -/
mutual
def intrusionref09_Reader_Feed.j0 : Nat → ByteArray → Int → Bool → Bool → Int → Int → Bool → Option ((List (S33)) × Int × ByteArray × Int × Bool × Bool × Int × Int × Bool)
 | 0, _, _, _, _, _, _, _ => none
 | k + 1, x1000, x1001, x1002, x1003, x1004, x1005, x1006 => intrusionref09_Reader_Feed.l0 k ([] : List (S33)) x1000 x1001 x1002 x1003 x1004 x1005 x1006
def intrusionref09_Reader_Feed.l0 : Nat → List (S33) → ByteArray → Int → Bool → Bool → Int → Int → Bool → Option ((List (S33)) × Int × ByteArray × Int × Bool × Bool × Int × Int × Bool)
 | 0, _, _, _, _, _, _, _, _ => none
 | k + 1, x7, x1000, x1001, x1002, x1003, x1004, x1005, x1006 => if (wrap64 ((x1000.size : Int) - x1001)) ≥ 16 then ((intrusionref09_Reader_check.f k x1000 x1001 x1002 x1003 x1004 x1005 x1006).bind fun bt322 => (if bt322.2.1 = 0 then (if 1 < (bt322.1.length : Int) then (if (wrap64 ((wrap64 (bt322.2.2.2.1 + 16)) + (rd bt322.1 1))) > (bt322.2.2.1.size : Int) then (some (x7, 0, bt322.2.2.1, bt322.2.2.2.1, bt322.2.2.2.2.1, bt322.2.2.2.2.2.1, bt322.2.2.2.2.2.2.1, bt322.2.2.2.2.2.2.2.1, bt322.2.2.2.2.2.2.2.2)) else (if 0 < (bt322.1.length : Int) then (if 2 < (bt322.1.length : Int) then (if 0 ≤ (wrap64 (bt322.2.2.2.1 + 16)) then (if (wrap64 (bt322.2.2.2.1 + 16)) ≤ (wrap64 ((wrap64 (bt322.2.2.2.1 + 16)) + (rd bt322.1 1))) then (if (wrap64 ((wrap64 (bt322.2.2.2.1 + 16)) + (rd bt322.1 1))) ≤ (bt322.2.2.1.size : Int) then (if x7.length < 4398046511104 then (intrusionref09_Reader_Feed.l0 k (x7 ++ [(⟨rd bt322.1 0, rd bt322.1 2, bt322.2.2.1.extract ((wrap64 (bt322.2.2.2.1 + 16)) : Int).toNat ((wrap64 ((wrap64 (bt322.2.2.2.1 + 16)) + (rd bt322.1 1))) : Int).toNat⟩ : S33)]) bt322.2.2.1 (wrap64 ((wrap64 (bt322.2.2.2.1 + 16)) + (rd bt322.1 1))) bt322.2.2.2.2.1 bt322.2.2.2.2.2.1 (wrap64 (bt322.2.2.2.2.2.2.1 + 1)) (rd bt322.1 0) bt322.2.2.2.2.2.2.2.2) else (none)) else (none)) else (none)) else (none)) else (none)) else (none))) else (none)) else (some (x7, bt322.2.1, bt322.2.2.1, bt322.2.2.2.1, bt322.2.2.2.2.1, bt322.2.2.2.2.2.1, bt322.2.2.2.2.2.2.1, bt322.2.2.2.2.2.2.2.1, true)))) else (some (x7, 0, x1000, x1001, x1002, x1003, x1004, x1005, x1006))
end
def intrusionref09_Reader_Feed.f (k : Nat) (s0_0 : ByteArray) (s0_1 : Int) (s0_2 : Bool) (s0_3 : Bool) (s0_4 : Int) (s0_5 : Int) (s0_6 : Bool) (a1 : ByteArray) : Option ((List (S33)) × Int × ByteArray × Int × Bool × Bool × Int × Int × Bool) := if s0_6 = true then (some (([] : List (S33)), 10, s0_0, s0_1, s0_2, s0_3, s0_4, s0_5, s0_6)) else (if s0_0.size + a1.size ≤ 9223372036854775807 then (if s0_2 = true then (intrusionref09_Reader_Feed.j0 k (s0_0 ++ a1) s0_1 s0_2 s0_3 s0_4 s0_5 s0_6) else (if ((s0_0 ++ a1).size : Int) < 24 then (some (([] : List (S33)), 0, s0_0 ++ a1, s0_1, s0_2, s0_3, s0_4, s0_5, s0_6)) else ((intrusionref09_Reader_head.f k (s0_0 ++ a1) s0_1 s0_2 s0_3 s0_4 s0_5 s0_6).bind fun bt314 => (if bt314.1 = 0 then (intrusionref09_Reader_Feed.j0 k bt314.2.1 bt314.2.2.1 bt314.2.2.2.1 bt314.2.2.2.2.1 bt314.2.2.2.2.2.1 bt314.2.2.2.2.2.2.1 bt314.2.2.2.2.2.2.2) else (some (([] : List (S33)), bt314.1, bt314.2.1, bt314.2.2.1, bt314.2.2.2.1, bt314.2.2.2.2.1, bt314.2.2.2.2.2.1, bt314.2.2.2.2.2.2.1, true)))))) else (none))
theorem intrusionref09_Reader_Feed.mono_l : ∀ k, (∀ y0 y1 y2 y3 y4 y5 y6, LeO (intrusionref09_Reader_Feed.j0 k y0 y1 y2 y3 y4 y5 y6) (intrusionref09_Reader_Feed.j0 (k + 1) y0 y1 y2 y3 y4 y5 y6)) ∧ (∀ y0 y1 y2 y3 y4 y5 y6 y7, LeO (intrusionref09_Reader_Feed.l0 k y0 y1 y2 y3 y4 y5 y6 y7) (intrusionref09_Reader_Feed.l0 (k + 1) y0 y1 y2 y3 y4 y5 y6 y7))
 | 0 => ⟨fun _ _ _ _ _ _ _ r h => by simp [intrusionref09_Reader_Feed.j0] at h, fun _ _ _ _ _ _ _ _ r h => by simp [intrusionref09_Reader_Feed.l0] at h⟩
 | k + 1 => by
  obtain ⟨ih0, ih1⟩ := intrusionref09_Reader_Feed.mono_l k
  refine ⟨?_, ?_⟩
  ·intro y0 y1 y2 y3 y4 y5 y6
   unfold intrusionref09_Reader_Feed.j0
   repeat' first | with_reducible first | apply ih0 | apply ih1 | apply intrusionref09_Reader_check.mono | apply intrusionref09_Reader_head.mono | apply LeO.refl | apply LeO.none | refine LeO.ite ?_ ?_ | refine LeO.bind ?_ (fun _ => ?_)
  intro y0 y1 y2 y3 y4 y5 y6 y7
  unfold intrusionref09_Reader_Feed.l0
  repeat' first | with_reducible first | apply ih0 | apply ih1 | apply intrusionref09_Reader_check.mono | apply intrusionref09_Reader_head.mono | apply LeO.refl | apply LeO.none | refine LeO.ite ?_ ?_ | refine LeO.bind ?_ (fun _ => ?_)
theorem intrusionref09_Reader_Feed.mono : ∀ a0 a1 a2 a3 a4 a5 a6 a7 k, LeO (intrusionref09_Reader_Feed.f k a0 a1 a2 a3 a4 a5 a6 a7) (intrusionref09_Reader_Feed.f (k + 1) a0 a1 a2 a3 a4 a5 a6 a7) := by
 intro a0 a1 a2 a3 a4 a5 a6 a7 k
 obtain ⟨ih0, ih1⟩ := intrusionref09_Reader_Feed.mono_l k
 unfold intrusionref09_Reader_Feed.f
 repeat' first | with_reducible first | apply ih0 | apply ih1 | apply intrusionref09_Reader_check.mono | apply intrusionref09_Reader_head.mono | apply LeO.refl | apply LeO.none | refine LeO.ite ?_ ?_ | refine LeO.bind ?_ (fun _ => ?_)
def intrusionref09_Reader_Feed.T12 : Bool × List (List Nat × List Nat) := (true, [([], []), ([0], [0]), ([1], [1]), ([2], [2]), ([3], [3]), ([], []), ([5], [5]), ([6], [6]), ([7], [7]), ([4, 8], [4, 8]), ([9], [9])])
def intrusionref09_Reader_Feed.B12 : List Nat := [0, 1, 3, 7, 15, 0, 32, 96, 224, 511, 1023]
theorem intrusionref09_Reader_Feed.tab12 : rtab .any (opsOf Try.f23 12) = intrusionref09_Reader_Feed.T12 := by kernel_rfl
theorem intrusionref09_Reader_Feed.bits12 : waitsOk intrusionref09_Reader_Feed.T12.2 intrusionref09_Reader_Feed.B12 = true := by kernel_rfl
def intrusionref09_Reader_Feed.T17 : Bool × List (List Nat × List Nat) := (true, [([], []), ([0], [0]), ([1], [1]), ([2], [2]), ([3], [3]), ([], []), ([5], [5]), ([6], [6]), ([4, 7], [4, 7]), ([8, 0, 1, 2, 3, 4, 5, 6, 7, 8], [8])])
def intrusionref09_Reader_Feed.B17 : List Nat := [0, 1, 3, 7, 15, 0, 32, 96, 255, 511]
theorem intrusionref09_Reader_Feed.tab17 : rtab .any (opsOf Try.f23 17) = intrusionref09_Reader_Feed.T17 := by kernel_rfl
theorem intrusionref09_Reader_Feed.bits17 : waitsOk intrusionref09_Reader_Feed.T17.2 intrusionref09_Reader_Feed.B17 = true := by kernel_rfl
def intrusionref09_Reader_Feed.T20 : Bool × List (List Nat × List Nat) := (true, [([], []), ([], []), ([1], [1]), ([2], [2]), ([], []), ([4], [4]), ([5], [5]), ([], []), ([7], [7]), ([8], [8]), ([9], [9]), ([], []), ([11], [11]), ([12], [12]), ([13], [13]), ([14], [14]), ([], []), ([10, 15, 16], [10, 15, 16]), ([3, 6, 17], [3, 6, 17]), ([18], [18]), ([0, 19], [0, 19]), ([20, 20, 0, 1, 2, 3, 4, 5, 6, 7, 8, 9, 10, 11, 12, 13, 14, 15, 16, 17, 18, 19, 20], [0, 20])])
def intrusionref09_Reader_Feed.B20 : List Nat := [0, 0, 2, 6, 0, 16, 48, 0, 128, 384, 896, 0, 2048, 6144, 14336, 30720, 0, 130944, 262142, 524286, 1048575, 2097151]
theorem intrusionref09_Reader_Feed.tab20 : rtab .any (opsOf Try.f23 20) = intrusionref09_Reader_Feed.T20 := by kernel_rfl
theorem intrusionref09_Reader_Feed.bits20 : waitsOk intrusionref09_Reader_Feed.T20.2 intrusionref09_Reader_Feed.B20 = true := by kernel_rfl
set_option maxHeartbeats 8000000 in
set_option maxRecDepth 100000 in
theorem intrusionref09_Reader_Feed.calls (k : Nat) (g : Nat) (s0_0 : ByteArray) (s0_1 : Int) (s0_2 : Bool) (s0_3 : Bool) (s0_4 : Int) (s0_5 : Int) (s0_6 : Bool) (a1 : ByteArray) (r1 : List (S33)) (r2 : Int) (r3 : ByteArray) (r4 : Int) (r5 : Bool) (r6 : Bool) (r7 : Int) (r8 : Int) (r9 : Bool) (w0 w : World) (hI : IsS41 w0 w g s0_0 s0_1 s0_2 s0_3 s0_4 s0_5 s0_6) (hB : Below w0.heap.size w0 w) (h : intrusionref09_Reader_Feed.f k s0_0 s0_1 s0_2 s0_3 s0_4 s0_5 s0_6 a1 = some (r1, r2, r3, r4, r5, r6, r7, r8, r9)) :
  Calls Try.prog 23 #[.pointer (some ⟨g, 0, none⟩), .string a1] w fun e w' => ∃ v0_ : Value, e = .returned (.tuple #[v0_, .int .i64 r2]) ∧ Kd.R k33 33 w' w.heap.size (fun _ => True) v0_ r1 ∧ IsS41 w0 w' g r3 r4 r5 r6 r7 r8 r9 ∧ Below w0.heap.size w0 w' ∧ KeepBut w w' g none := by
 have hu33 := Try.underlying33
 have HI0 := As hI
 have HK := As (KeepBut.refl w g none)
 have HL := As hB.size
 clear hI
 have HW0 := As hB.size
 have HB := As hB
 clear hB
 have H : (if s0_6 = true then (some (([] : List (S33)), 10, s0_0, s0_1, s0_2, s0_3, s0_4, s0_5, s0_6)) else (if s0_0.size + a1.size ≤ 9223372036854775807 then (if s0_2 = true then (intrusionref09_Reader_Feed.j0 k (s0_0 ++ a1) s0_1 s0_2 s0_3 s0_4 s0_5 s0_6) else (if ((s0_0 ++ a1).size : Int) < 24 then (some (([] : List (S33)), 0, s0_0 ++ a1, s0_1, s0_2, s0_3, s0_4, s0_5, s0_6)) else ((intrusionref09_Reader_head.f k (s0_0 ++ a1) s0_1 s0_2 s0_3 s0_4 s0_5 s0_6).bind fun bt314 => (if bt314.1 = 0 then (intrusionref09_Reader_Feed.j0 k bt314.2.1 bt314.2.2.1 bt314.2.2.2.1 bt314.2.2.2.2.1 bt314.2.2.2.2.2.1 bt314.2.2.2.2.2.2.1 bt314.2.2.2.2.2.2.2) else (some (([] : List (S33)), bt314.1, bt314.2.1, bt314.2.2.1, bt314.2.2.2.1, bt314.2.2.2.2.1, bt314.2.2.2.2.2.1, bt314.2.2.2.2.2.2.1, true)))))) else (none))) = some (r1, r2, r3, r4, r5, r6, r7, r8, r9) := h
 clear h
 by_cases c3 : s0_6 = true
 ·subst c3
  have H1 : (some (([] : List (S33)), 10, s0_0, s0_1, s0_2, s0_3, s0_4, s0_5, true)) = some (r1, r2, r3, r4, r5, r6, r7, r8, r9) := by rw [if_pos rfl] at H; exact H
  clear H
  have H := H1
  clear H1
  simp only [Option.some.injEq, Prod.mk.injEq] at H
  obtain ⟨rfl, rfl, rfl, rfl, rfl, rfl, rfl, rfl, rfl⟩ := H
  obtain ⟨HGz4, hgz4⟩ := HI0.out
  have hcz4_0 := cellS41_0 HGz4
  have hcz4_1 := cellS41_1 HGz4
  have hcz4_2 := cellS41_2 HGz4
  have hcz4_3 := cellS41_3 HGz4
  have hcz4_4 := cellS41_4 HGz4
  have hcz4_5 := cellS41_5 HGz4
  have hcz4_6 := cellS41_6 HGz4
  have hfz4_0 := blk_frozen HGz4 0
  have hfz4_1 := blk_frozen HGz4 1
  have hfz4_2 := blk_frozen HGz4 2
  have hfz4_3 := blk_frozen HGz4 3
  have hfz4_4 := blk_frozen HGz4 4
  have hfz4_5 := blk_frozen HGz4 5
  have hfz4_6 := blk_frozen HGz4 6
  clear HGz4 hgz4
  go_enter Try.func23, Try.ntmps23
  go_wp2
  go_ret2
  exact ⟨_, kE, by first | exact Kd.R_nil _ _ _ _ _ | exact Kd.N_nil _ _ _ _ _ | exact Kd.V_nil _ _ _ _ _ | exact Kd.Q_nil _ _ _ _ _ | exact Kd.S_nil _ _ _ _ _, by repeat (first | (with_reducible first | exact HI0.out | apply IsS41.alloc | apply IsS41.drewN | apply IsS41.drew | apply IsS41.set_0 | apply IsS41.set_1 | apply IsS41.set_2 | apply IsS41.set_3 | apply IsS41.set_4 | apply IsS41.set_5 | apply IsS41.set_6) | exact HI0.out), by exact kB1 HB.out (IsS41.ge HI0.out), by repeat (first | (with_reducible first | exact HK.out | apply KeepBut.set_ | apply keep_drewN | apply keep_drew | apply keep_alloc) | exact HK.out)⟩
 replace c3 := Bool.eq_false_iff.mpr c3
 subst c3
 have H1 : (if s0_0.size + a1.size ≤ 9223372036854775807 then (if s0_2 = true then (intrusionref09_Reader_Feed.j0 k (s0_0 ++ a1) s0_1 s0_2 s0_3 s0_4 s0_5 false) else (if ((s0_0 ++ a1).size : Int) < 24 then (some (([] : List (S33)), 0, s0_0 ++ a1, s0_1, s0_2, s0_3, s0_4, s0_5, false)) else ((intrusionref09_Reader_head.f k (s0_0 ++ a1) s0_1 s0_2 s0_3 s0_4 s0_5 false).bind fun bt314 => (if bt314.1 = 0 then (intrusionref09_Reader_Feed.j0 k bt314.2.1 bt314.2.2.1 bt314.2.2.2.1 bt314.2.2.2.2.1 bt314.2.2.2.2.2.1 bt314.2.2.2.2.2.2.1 bt314.2.2.2.2.2.2.2) else (some (([] : List (S33)), bt314.1, bt314.2.1, bt314.2.2.1, bt314.2.2.2.1, bt314.2.2.2.2.1, bt314.2.2.2.2.2.1, bt314.2.2.2.2.2.2.1, true)))))) else (none)) = some (r1, r2, r3, r4, r5, r6, r7, r8, r9) := by rw [if_neg (show ¬ (false = true) by decide)] at H; exact H
 clear H
 have H := H1
 clear H1
 by_cases c5 : s0_0.size + a1.size ≤ 9223372036854775807
 ·rw [if_pos c5] at H
  have c5b0 := eq_true c5
  have c5b1 : decide (s0_0.size + a1.size ≤ 9223372036854775807) = true := decide_eq_true c5
  try have c5b2 : (9223372036854775807 < s0_0.size + a1.size) = False := eq_false (Nat.not_lt.2 c5)
  have HC6 := As H
  clear H
  obtain ⟨HGz7, hgz7⟩ := HI0.out
  have hcz7_0 := cellS41_0 HGz7
  have hcz7_1 := cellS41_1 HGz7
  have hcz7_2 := cellS41_2 HGz7
  have hcz7_3 := cellS41_3 HGz7
  have hcz7_4 := cellS41_4 HGz7
  have hcz7_5 := cellS41_5 HGz7
  have hcz7_6 := cellS41_6 HGz7
  have hfz7_0 := blk_frozen HGz7 0
  have hfz7_1 := blk_frozen HGz7 1
  have hfz7_2 := blk_frozen HGz7 2
  have hfz7_3 := blk_frozen HGz7 3
  have hfz7_4 := blk_frozen HGz7 4
  have hfz7_5 := blk_frozen HGz7 5
  have hfz7_6 := blk_frozen HGz7 6
  clear HGz7 hgz7
  go_enter Try.func23, Try.ntmps23
  go_upto_if 28 with (fail)
  go_cut [] (fun wc => ∃ (kq : Nat) (x1000_5 : ByteArray) (x1001_5 : Int) (x1002_5 : Bool) (x1003_5 : Bool) (x1004_5 : Int) (x1005_5 : Int) (x1006_5 : Bool), Aside0 (intrusionref09_Reader_Feed.j0 kq x1000_5 x1001_5 x1002_5 x1003_5 x1004_5 x1005_5 x1006_5 = some (r1, r2, r3, r4, r5, r6, r7, r8, r9)) ∧ Aside0 (kq ≤ k) ∧ Aside0 (IsS41 w0 wc g x1000_5 x1001_5 x1002_5 x1003_5 x1004_5 x1005_5 x1006_5) ∧ Aside0 (KeepBut w wc g none) ∧ Aside0 (Below w0.heap.size w0 wc))
  case first =>
   have H := HC6.out
   clear HC6
   by_cases c8 : s0_2 = true
   ·subst c8
    have H1 : (intrusionref09_Reader_Feed.j0 k (s0_0 ++ a1) s0_1 true s0_3 s0_4 s0_5 false) = some (r1, r2, r3, r4, r5, r6, r7, r8, r9) := by rw [if_pos rfl] at H; exact H
    clear H
    have H := H1
    clear H1
    have H' := As H
    clear H
    go_wp2
    go_meet
    case rel => exact ⟨_, (s0_0 ++ a1), (s0_1), (true), (s0_3), (s0_4), (s0_5), (false), H', ⟨by first | omega | exact Nat.le_refl _⟩, ⟨by repeat (first | (with_reducible first | exact HI0.out | apply IsS41.alloc | apply IsS41.drewN | apply IsS41.drew | apply IsS41.set_0 | apply IsS41.set_1 | apply IsS41.set_2 | apply IsS41.set_3 | apply IsS41.set_4 | apply IsS41.set_5 | apply IsS41.set_6) | exact HI0.out)⟩, ⟨by repeat (first | (with_reducible first | exact HK.out | apply KeepBut.set_ | apply keep_drewN | apply keep_drew | apply keep_alloc) | exact HK.out)⟩, ⟨kB1 HB.out (IsS41.ge HI0.out)⟩⟩
   replace c8 := Bool.eq_false_iff.mpr c8
   subst c8
   have H1 : (if ((s0_0 ++ a1).size : Int) < 24 then (some (([] : List (S33)), 0, s0_0 ++ a1, s0_1, false, s0_3, s0_4, s0_5, false)) else ((intrusionref09_Reader_head.f k (s0_0 ++ a1) s0_1 false s0_3 s0_4 s0_5 false).bind fun bt314 => (if bt314.1 = 0 then (intrusionref09_Reader_Feed.j0 k bt314.2.1 bt314.2.2.1 bt314.2.2.2.1 bt314.2.2.2.2.1 bt314.2.2.2.2.2.1 bt314.2.2.2.2.2.2.1 bt314.2.2.2.2.2.2.2) else (some (([] : List (S33)), bt314.1, bt314.2.1, bt314.2.2.1, bt314.2.2.2.1, bt314.2.2.2.2.1, bt314.2.2.2.2.2.1, bt314.2.2.2.2.2.2.1, true))))) = some (r1, r2, r3, r4, r5, r6, r7, r8, r9) := by rw [if_neg (show ¬ (false = true) by decide)] at H; exact H
   clear H
   have H := H1
   clear H1
   by_cases c9 : ((s0_0 ++ a1).size : Int) < 24
   ·rw [if_pos c9] at H
    have c9b0 : decide (((s0_0 ++ a1).size : Int) < 24) = true := decide_eq_true c9
    have c9b1 : decide ((s0_0 ++ a1).size < 24) = true := decide_eq_true (by omega)
    (try (have c9b2 : (((s0_0.size : Int) + (a1.size : Int)) < 24) = True := by have h_ := c9; simp only [ByteArray.size_append, Int.natCast_add, Int.toNat_natCast] at h_; first | exact eq_true h_ | exact eq_true (by omega)))
    (try (have c9b3 : decide (((s0_0.size : Int) + (a1.size : Int)) < 24) = true := by have h_ := c9; first | (simp only [ByteArray.size_append, Int.toNat_natCast] at h_; first | exact beq_iff_eq.mpr h_ | exact beq_eq_false_iff_ne.mpr h_ | exact bne_iff_ne.mpr h_ | exact bne_eq_false_iff_eq.mpr h_ | (rw [beq_iff_eq.mpr h_]; rfl) | (rw [beq_eq_false_iff_ne.mpr h_]; rfl)) | (simp only [ByteArray.size_append, Int.natCast_add, Int.toNat_natCast] at h_ ⊢; first | exact h_ | simpa using h_ | simp [h_] | omega) | (simp only [ByteArray.size_append] at h_; simp at h_ ⊢; omega) | (simp only [ByteArray.size_append, Int.natCast_add, Int.toNat_natCast] at h_; simpa using h_)))
    (try (have c9b4 : ((s0_0.size + a1.size) < 24) = True := by have h_ := c9; simp only [ByteArray.size_append, Int.natCast_add, Int.toNat_natCast] at h_; first | exact eq_true h_ | exact eq_true (by omega)))
    (try (have c9b5 : decide ((s0_0.size + a1.size) < 24) = true := by have h_ := c9; first | (simp only [ByteArray.size_append, Int.toNat_natCast] at h_; first | exact beq_iff_eq.mpr h_ | exact beq_eq_false_iff_ne.mpr h_ | exact bne_iff_ne.mpr h_ | exact bne_eq_false_iff_eq.mpr h_ | (rw [beq_iff_eq.mpr h_]; rfl) | (rw [beq_eq_false_iff_ne.mpr h_]; rfl)) | (simp only [ByteArray.size_append, Int.natCast_add, Int.toNat_natCast] at h_ ⊢; first | exact h_ | simpa using h_ | simp [h_] | omega) | (simp only [ByteArray.size_append] at h_; simp at h_ ⊢; omega) | (simp only [ByteArray.size_append, Int.natCast_add, Int.toNat_natCast] at h_; simpa using h_)))
    clear c9
    (first | rw [c9b0] | (simp only [i64_w, i32_w]; rw [c9b0]) | rw [c9b2] | rw [c9b3] | skip)
    simp only [Option.some.injEq, Prod.mk.injEq] at H
    obtain ⟨rfl, rfl, rfl, rfl, rfl, rfl, rfl, rfl, rfl⟩ := H
    obtain ⟨HGz10, hgz10⟩ := HI0.out
    have hcz10_0 := cellS41_0 HGz10
    have hcz10_1 := cellS41_1 HGz10
    have hcz10_2 := cellS41_2 HGz10
    have hcz10_3 := cellS41_3 HGz10
    have hcz10_4 := cellS41_4 HGz10
    have hcz10_5 := cellS41_5 HGz10
    have hcz10_6 := cellS41_6 HGz10
    have hfz10_0 := blk_frozen HGz10 0
    have hfz10_1 := blk_frozen HGz10 1
    have hfz10_2 := blk_frozen HGz10 2
    have hfz10_3 := blk_frozen HGz10 3
    have hfz10_4 := blk_frozen HGz10 4
    have hfz10_5 := blk_frozen HGz10 5
    have hfz10_6 := blk_frozen HGz10 6
    clear HGz10 hgz10
    go_wp2
    go_ret2
    exact ⟨_, kE, by first | exact Kd.R_nil _ _ _ _ _ | exact Kd.N_nil _ _ _ _ _ | exact Kd.V_nil _ _ _ _ _ | exact Kd.Q_nil _ _ _ _ _ | exact Kd.S_nil _ _ _ _ _, by repeat (first | (with_reducible first | exact HI0.out | apply IsS41.alloc | apply IsS41.drewN | apply IsS41.drew | apply IsS41.set_0 | apply IsS41.set_1 | apply IsS41.set_2 | apply IsS41.set_3 | apply IsS41.set_4 | apply IsS41.set_5 | apply IsS41.set_6) | exact HI0.out), by exact kB1 HB.out (IsS41.ge HI0.out), by repeat (first | (with_reducible first | exact HK.out | apply KeepBut.set_ | apply keep_drewN | apply keep_drew | apply keep_alloc) | exact HK.out)⟩
   rw [if_neg c9] at H
   have c9b0 : decide (((s0_0 ++ a1).size : Int) < 24) = false := decide_eq_false c9
   have c9b1 : decide ((s0_0 ++ a1).size < 24) = false := decide_eq_false (by omega)
   (try (have c9b2 : (((s0_0.size : Int) + (a1.size : Int)) < 24) = False := by have h_ := c9; simp only [ByteArray.size_append, Int.natCast_add, Int.toNat_natCast] at h_; first | exact eq_false h_ | exact eq_false (by omega)))
   (try (have c9b3 : decide (((s0_0.size : Int) + (a1.size : Int)) < 24) = false := by have h_ := c9; first | (simp only [ByteArray.size_append, Int.toNat_natCast] at h_; first | exact beq_iff_eq.mpr h_ | exact beq_eq_false_iff_ne.mpr h_ | exact bne_iff_ne.mpr h_ | exact bne_eq_false_iff_eq.mpr h_ | (rw [beq_iff_eq.mpr h_]; rfl) | (rw [beq_eq_false_iff_ne.mpr h_]; rfl)) | (simp only [ByteArray.size_append, Int.natCast_add, Int.toNat_natCast] at h_ ⊢; first | exact h_ | simpa using h_ | simp [h_] | omega) | (simp only [ByteArray.size_append] at h_; simp at h_ ⊢; omega) | (simp only [ByteArray.size_append, Int.natCast_add, Int.toNat_natCast] at h_; simpa using h_)))
   (try (have c9b4 : ((s0_0.size + a1.size) < 24) = False := by have h_ := c9; simp only [ByteArray.size_append, Int.natCast_add, Int.toNat_natCast] at h_; first | exact eq_false h_ | exact eq_false (by omega)))
   (try (have c9b5 : decide ((s0_0.size + a1.size) < 24) = false := by have h_ := c9; first | (simp only [ByteArray.size_append, Int.toNat_natCast] at h_; first | exact beq_iff_eq.mpr h_ | exact beq_eq_false_iff_ne.mpr h_ | exact bne_iff_ne.mpr h_ | exact bne_eq_false_iff_eq.mpr h_ | (rw [beq_iff_eq.mpr h_]; rfl) | (rw [beq_eq_false_iff_ne.mpr h_]; rfl)) | (simp only [ByteArray.size_append, Int.natCast_add, Int.toNat_natCast] at h_ ⊢; first | exact h_ | simpa using h_ | simp [h_] | omega) | (simp only [ByteArray.size_append] at h_; simp at h_ ⊢; omega) | (simp only [ByteArray.size_append, Int.natCast_add, Int.toNat_natCast] at h_; simpa using h_)))
   clear c9
   (first | rw [c9b0] | (simp only [i64_w, i32_w]; rw [c9b0]) | rw [c9b2] | rw [c9b3] | skip)
   replace H := Option.bind_eq_some_iff.mp H
   obtain ⟨⟨t314, t315, t316, t317, t318, t319, t320, t321⟩, A110, H⟩ := H
   replace H : (if t314 = 0 then (intrusionref09_Reader_Feed.j0 k t315 t316 t317 t318 t319 t320 t321) else (some (([] : List (S33)), t314, t315, t316, t317, t318, t319, t320, true))) = some (r1, r2, r3, r4, r5, r6, r7, r8, r9) := H
   have A11 := As A110
   clear A110
   by_cases c12 : t314 = 0
   ·rw [if_pos c12] at H
    have c12b0 : (t314 == 0) = true := beq_iff_eq.mpr c12
    have c12b1 : (t314 != 0) = false := bne_eq_false_iff_eq.mpr c12
    clear c12
    have H' := As H
    clear H
    obtain ⟨HGz13, hgz13⟩ := HI0.out
    have hcz13_0 := cellS41_0 HGz13
    have hcz13_1 := cellS41_1 HGz13
    have hcz13_2 := cellS41_2 HGz13
    have hcz13_3 := cellS41_3 HGz13
    have hcz13_4 := cellS41_4 HGz13
    have hcz13_5 := cellS41_5 HGz13
    have hcz13_6 := cellS41_6 HGz13
    have hfz13_0 := blk_frozen HGz13 0
    have hfz13_1 := blk_frozen HGz13 1
    have hfz13_2 := blk_frozen HGz13 2
    have hfz13_3 := blk_frozen HGz13 3
    have hfz13_4 := blk_frozen HGz13 4
    have hfz13_5 := blk_frozen HGz13 5
    have hfz13_6 := blk_frozen HGz13 6
    clear HGz13 hgz13
    go_wp2_with (first | ((with_reducible refine gate_callee (f := 31) rfl ?_); refine goesL_ (some 36) rfl rfl Try.func31 (by kernel_rfl) rfl #[.pointer (some ⟨g, 0, none⟩)] rfl kA ?_; (with_reducible refine (intrusionref09_Reader_head.calls k g (s0_0 ++ a1) s0_1 false s0_3 s0_4 s0_5 false t314 t315 t316 t317 t318 t319 t320 t321 w0 _ ?side1 ?side2 A11.out).mono ?_); (case side1 => repeat (first | (with_reducible first | exact HI0.out | apply IsS41.alloc | apply IsS41.drewN | apply IsS41.drew | apply IsS41.set_0 | apply IsS41.set_1 | apply IsS41.set_2 | apply IsS41.set_3 | apply IsS41.set_4 | apply IsS41.set_5 | apply IsS41.set_6) | exact HI0.out)); (case side2 => exact kB1 HB.out (IsS41.ge HI0.out)); rintro e w14 ⟨rfl, hi, hb, hk⟩; refine ⟨_, rfl, ?_⟩; replace HK := As (KeepBut.trans (by repeat (first | (with_reducible first | exact HK.out | apply KeepBut.set_ | apply keep_drewN | apply keep_drew | apply keep_alloc) | exact HK.out)) hk (.inl rfl)); replace HB := As (hb); replace HI0 := As (hi); (try clear hb); (try clear hk); (try clear hi)))
    go_meet
    case rel => exact ⟨_, (t315), (t316), (t317), (t318), (t319), (t320), (t321), H', ⟨by first | omega | exact Nat.le_refl _⟩, ⟨by repeat (first | (with_reducible first | exact HI0.out | apply IsS41.alloc | apply IsS41.drewN | apply IsS41.drew | apply IsS41.set_0 | apply IsS41.set_1 | apply IsS41.set_2 | apply IsS41.set_3 | apply IsS41.set_4 | apply IsS41.set_5 | apply IsS41.set_6) | exact HI0.out)⟩, ⟨by repeat (first | (with_reducible first | exact HK.out | apply KeepBut.set_ | apply keep_drewN | apply keep_drew | apply keep_alloc) | exact HK.out)⟩, ⟨kB1 HB.out (IsS41.ge HI0.out)⟩⟩
   rw [if_neg c12] at H
   have c12b0 : (t314 == 0) = false := beq_eq_false_iff_ne.mpr c12
   have c12b1 : (t314 != 0) = true := bne_iff_ne.mpr c12
   simp only [Option.some.injEq, Prod.mk.injEq] at H
   obtain ⟨rfl, rfl, rfl, rfl, rfl, rfl, rfl, rfl, rfl⟩ := H
   obtain ⟨HGz15, hgz15⟩ := HI0.out
   have hcz15_0 := cellS41_0 HGz15
   have hcz15_1 := cellS41_1 HGz15
   have hcz15_2 := cellS41_2 HGz15
   have hcz15_3 := cellS41_3 HGz15
   have hcz15_4 := cellS41_4 HGz15
   have hcz15_5 := cellS41_5 HGz15
   have hcz15_6 := cellS41_6 HGz15
   have hfz15_0 := blk_frozen HGz15 0
   have hfz15_1 := blk_frozen HGz15 1
   have hfz15_2 := blk_frozen HGz15 2
   have hfz15_3 := blk_frozen HGz15 3
   have hfz15_4 := blk_frozen HGz15 4
   have hfz15_5 := blk_frozen HGz15 5
   have hfz15_6 := blk_frozen HGz15 6
   clear HGz15 hgz15
   go_wp2_with (first | ((with_reducible refine gate_callee (f := 31) rfl ?_); refine goesL_ (some 36) rfl rfl Try.func31 (by kernel_rfl) rfl #[.pointer (some ⟨g, 0, none⟩)] rfl kA ?_; (with_reducible refine (intrusionref09_Reader_head.calls k g (s0_0 ++ a1) s0_1 false s0_3 s0_4 s0_5 false t314 t315 t316 t317 t318 t319 t320 t321 w0 _ ?side1 ?side2 A11.out).mono ?_); (case side1 => repeat (first | (with_reducible first | exact HI0.out | apply IsS41.alloc | apply IsS41.drewN | apply IsS41.drew | apply IsS41.set_0 | apply IsS41.set_1 | apply IsS41.set_2 | apply IsS41.set_3 | apply IsS41.set_4 | apply IsS41.set_5 | apply IsS41.set_6) | exact HI0.out)); (case side2 => exact kB1 HB.out (IsS41.ge HI0.out)); rintro e w16 ⟨rfl, hi, hb, hk⟩; refine ⟨_, rfl, ?_⟩; replace HK := As (KeepBut.trans (by repeat (first | (with_reducible first | exact HK.out | apply KeepBut.set_ | apply keep_drewN | apply keep_drew | apply keep_alloc) | exact HK.out)) hk (.inl rfl)); replace HB := As (hb); replace HI0 := As (hi); (try clear hb); (try clear hk); (try clear hi); obtain ⟨HGz17, hgz17⟩ := HI0.out; have hcz17_0 := cellS41_0 HGz17; have hcz17_1 := cellS41_1 HGz17; have hcz17_2 := cellS41_2 HGz17; have hcz17_3 := cellS41_3 HGz17; have hcz17_4 := cellS41_4 HGz17; have hcz17_5 := cellS41_5 HGz17; have hcz17_6 := cellS41_6 HGz17; have hfz17_0 := blk_frozen HGz17 0; have hfz17_1 := blk_frozen HGz17 1; have hfz17_2 := blk_frozen HGz17 2; have hfz17_3 := blk_frozen HGz17 3; have hfz17_4 := blk_frozen HGz17 4; have hfz17_5 := blk_frozen HGz17 5; have hfz17_6 := blk_frozen HGz17 6; clear HGz17 hgz17))
   go_ret2
   exact ⟨_, kE, by first | exact Kd.R_nil _ _ _ _ _ | exact Kd.N_nil _ _ _ _ _ | exact Kd.V_nil _ _ _ _ _ | exact Kd.Q_nil _ _ _ _ _ | exact Kd.S_nil _ _ _ _ _, by repeat (first | (with_reducible first | exact HI0.out | apply IsS41.alloc | apply IsS41.drewN | apply IsS41.drew | apply IsS41.set_0 | apply IsS41.set_1 | apply IsS41.set_2 | apply IsS41.set_3 | apply IsS41.set_4 | apply IsS41.set_5 | apply IsS41.set_6) | exact HI0.out), by exact kB1 HB.out (IsS41.ge HI0.out), by repeat (first | (with_reducible first | exact HK.out | apply KeepBut.set_ | apply keep_drewN | apply keep_drew | apply keep_alloc) | exact HK.out)⟩
  clear HC6
  try clear c3
  try clear c5
  try clear c5b0
  try clear c5b1
  try clear c5b2
  try clear hcz7_0
  try clear hcz7_1
  try clear hcz7_2
  try clear hcz7_3
  try clear hcz7_4
  try clear hcz7_5
  try clear hcz7_6
  try clear hfz7_0
  try clear hfz7_1
  try clear hfz7_2
  try clear hfz7_3
  try clear hfz7_4
  try clear hfz7_5
  try clear hfz7_6
  obtain ⟨kq, x1000_5, x1001_5, x1002_5, x1003_5, x1004_5, x1005_5, x1006_5, HA, HJ5, HI0, HK, HB⟩ := hcut
  cases kq with
  | zero => exact absurd HA.out (by simp [intrusionref09_Reader_Feed.j0])
  | succ kj5 =>
   have H := HA.out
   clear HA
   simp only [intrusionref09_Reader_Feed.j0] at H
   have H' := As H
   clear H
   go_wp2
   go_loopg [7] kj5 (fun kq v7 w' => ∃ (x7_2 : List (S33)) (x1000_2 : ByteArray) (x1001_2 : Int) (x1002_2 : Bool) (x1003_2 : Bool) (x1004_2 : Int) (x1005_2 : Int) (x1006_2 : Bool), Aside0 (intrusionref09_Reader_Feed.l0 kq x7_2 x1000_2 x1001_2 x1002_2 x1003_2 x1004_2 x1005_2 x1006_2 = some (r1, r2, r3, r4, r5, r6, r7, r8, r9)) ∧ Aside0 (kq ≤ kj5) ∧ Aside0 (Kd.R k33 33 w' w.heap.size (fun _ => True) v7 x7_2) ∧ Aside0 (IsS41 w0 w' g x1000_2 x1001_2 x1002_2 x1003_2 x1004_2 x1005_2 x1006_2) ∧ Aside0 (KeepBut w w' g none) ∧ Aside0 (Below w0.heap.size w0 w'))
   case atStart => exact ⟨(([] : List (S33))), (x1000_5), (x1001_5), (x1002_5), (x1003_5), (x1004_5), (x1005_5), (x1006_5), H', ⟨Nat.le_refl _⟩, ⟨by first | exact Kd.R_nil _ _ _ _ _ | exact Kd.N_nil _ _ _ _ _ | exact Kd.V_nil _ _ _ _ _ | exact Kd.Q_nil _ _ _ _ _ | exact Kd.S_nil _ _ _ _ _⟩, ⟨by repeat (first | (with_reducible first | exact HI0.out | apply IsS41.alloc | apply IsS41.drewN | apply IsS41.drew | apply IsS41.set_0 | apply IsS41.set_1 | apply IsS41.set_2 | apply IsS41.set_3 | apply IsS41.set_4 | apply IsS41.set_5 | apply IsS41.set_6) | exact HI0.out)⟩, ⟨by repeat (first | (with_reducible first | exact HK.out | apply KeepBut.set_ | apply keep_drewN | apply keep_drew | apply keep_alloc) | exact HK.out)⟩, ⟨kB1 HB.out (IsS41.ge HI0.out)⟩⟩
   clear H'
   obtain ⟨x7_2, x1000_2, x1001_2, x1002_2, x1003_2, x1004_2, x1005_2, x1006_2, HA, HK2, HO_7, HI0, HK, HB⟩ := hrel
   cases gk with
   | zero => exact absurd HA.out (by simp [intrusionref09_Reader_Feed.l0])
   | succ k2 =>
    have H := HA.out
    clear HA
    simp only [intrusionref09_Reader_Feed.l0] at H
    by_cases c18 : (wrap64 ((x1000_2.size : Int) - x1001_2)) ≥ 16
    ·rw [if_pos c18] at H
     have c18b0 : decide (16 ≤ (wrap64 ((x1000_2.size : Int) - x1001_2))) = true := decide_eq_true c18
     clear c18
     replace H := Option.bind_eq_some_iff.mp H
     obtain ⟨⟨t322, t325, t326, t327, t328, t329, t330, t331, t332⟩, A190, H⟩ := H
     replace H : (if t325 = 0 then (if 1 < (t322.length : Int) then (if (wrap64 ((wrap64 (t327 + 16)) + (rd t322 1))) > (t326.size : Int) then (some (x7_2, 0, t326, t327, t328, t329, t330, t331, t332)) else (if 0 < (t322.length : Int) then (if 2 < (t322.length : Int) then (if 0 ≤ (wrap64 (t327 + 16)) then (if (wrap64 (t327 + 16)) ≤ (wrap64 ((wrap64 (t327 + 16)) + (rd t322 1))) then (if (wrap64 ((wrap64 (t327 + 16)) + (rd t322 1))) ≤ (t326.size : Int) then (if x7_2.length < 4398046511104 then (intrusionref09_Reader_Feed.l0 k2 (x7_2 ++ [(⟨rd t322 0, rd t322 2, t326.extract ((wrap64 (t327 + 16)) : Int).toNat ((wrap64 ((wrap64 (t327 + 16)) + (rd t322 1))) : Int).toNat⟩ : S33)]) t326 (wrap64 ((wrap64 (t327 + 16)) + (rd t322 1))) t328 t329 (wrap64 (t330 + 1)) (rd t322 0) t332) else (none)) else (none)) else (none)) else (none)) else (none)) else (none))) else (none)) else (some (x7_2, t325, t326, t327, t328, t329, t330, t331, true))) = some (r1, r2, r3, r4, r5, r6, r7, r8, r9) := H
     have A19 := As A190
     clear A190
     by_cases c20 : t325 = 0
     ·rw [if_pos c20] at H
      have c20b0 : (t325 == 0) = true := beq_iff_eq.mpr c20
      have c20b1 : (t325 != 0) = false := bne_eq_false_iff_eq.mpr c20
      clear c20
      by_cases c21 : 1 < (t322.length : Int)
      ·rw [if_pos c21] at H
       have c21b0 : decide (1 < (t322.length : Int)) = true := decide_eq_true c21
       have c21b1 : decide (1 < t322.length) = true := decide_eq_true (by omega)
       clear c21
       by_cases c22 : (wrap64 ((wrap64 (t327 + 16)) + (rd t322 1))) > (t326.size : Int)
       ·rw [if_pos c22] at H
        have c22b0 : decide ((t326.size : Int) < (wrap64 ((wrap64 (t327 + 16)) + (rd t322 1)))) = true := decide_eq_true c22
        clear c22
        simp only [Option.some.injEq, Prod.mk.injEq] at H
        obtain ⟨rfl, rfl, rfl, rfl, rfl, rfl, rfl, rfl, rfl⟩ := H
        try go_wp2
        replace HO_7 := As (Kd.R_drew HO_7.out)
        replace HI0 := As (IsS41.drew HI0.out)
        replace HK := As (keep_drew HK.out)
        replace HB := As (below_drew1 HB.out)
        refine start_ (n := 11) (S := fun w' => w'.cell? ⟨g, 0, none⟩ = some (.string x1000_2) ∧ w'.cell? ⟨g, 1, none⟩ = some (.int .i64 x1001_2) ∧ w'.cell? ⟨g, 2, none⟩ = some (.bool x1002_2) ∧ w'.cell? ⟨g, 3, none⟩ = some (.bool x1003_2) ∧ w'.cell? ⟨g, 4, none⟩ = some (.int .i64 x1004_2) ∧ w'.cell? ⟨g, 5, none⟩ = some (.int .i64 x1005_2) ∧ w'.cell? ⟨g, 6, none⟩ = some (.bool x1006_2)) (ds := []) #[O, O, O, O, O, O, O, O, O, O, O] (by kernel_rfl) rfl rfl ⟨(cellS41_0 (show IsS41 w0 _ g x1000_2 x1001_2 x1002_2 x1003_2 x1004_2 x1005_2 x1006_2 from by repeat (first | (with_reducible first | exact HI0.out | apply IsS41.alloc | apply IsS41.drewN | apply IsS41.drew | apply IsS41.set_0 | apply IsS41.set_1 | apply IsS41.set_2 | apply IsS41.set_3 | apply IsS41.set_4 | apply IsS41.set_5 | apply IsS41.set_6) | exact HI0.out)).1), (cellS41_1 (show IsS41 w0 _ g x1000_2 x1001_2 x1002_2 x1003_2 x1004_2 x1005_2 x1006_2 from by repeat (first | (with_reducible first | exact HI0.out | apply IsS41.alloc | apply IsS41.drewN | apply IsS41.drew | apply IsS41.set_0 | apply IsS41.set_1 | apply IsS41.set_2 | apply IsS41.set_3 | apply IsS41.set_4 | apply IsS41.set_5 | apply IsS41.set_6) | exact HI0.out)).1), (cellS41_2 (show IsS41 w0 _ g x1000_2 x1001_2 x1002_2 x1003_2 x1004_2 x1005_2 x1006_2 from by repeat (first | (with_reducible first | exact HI0.out | apply IsS41.alloc | apply IsS41.drewN | apply IsS41.drew | apply IsS41.set_0 | apply IsS41.set_1 | apply IsS41.set_2 | apply IsS41.set_3 | apply IsS41.set_4 | apply IsS41.set_5 | apply IsS41.set_6) | exact HI0.out)).1), (cellS41_3 (show IsS41 w0 _ g x1000_2 x1001_2 x1002_2 x1003_2 x1004_2 x1005_2 x1006_2 from by repeat (first | (with_reducible first | exact HI0.out | apply IsS41.alloc | apply IsS41.drewN | apply IsS41.drew | apply IsS41.set_0 | apply IsS41.set_1 | apply IsS41.set_2 | apply IsS41.set_3 | apply IsS41.set_4 | apply IsS41.set_5 | apply IsS41.set_6) | exact HI0.out)).1), (cellS41_4 (show IsS41 w0 _ g x1000_2 x1001_2 x1002_2 x1003_2 x1004_2 x1005_2 x1006_2 from by repeat (first | (with_reducible first | exact HI0.out | apply IsS41.alloc | apply IsS41.drewN | apply IsS41.drew | apply IsS41.set_0 | apply IsS41.set_1 | apply IsS41.set_2 | apply IsS41.set_3 | apply IsS41.set_4 | apply IsS41.set_5 | apply IsS41.set_6) | exact HI0.out)).1), (cellS41_5 (show IsS41 w0 _ g x1000_2 x1001_2 x1002_2 x1003_2 x1004_2 x1005_2 x1006_2 from by repeat (first | (with_reducible first | exact HI0.out | apply IsS41.alloc | apply IsS41.drewN | apply IsS41.drew | apply IsS41.set_0 | apply IsS41.set_1 | apply IsS41.set_2 | apply IsS41.set_3 | apply IsS41.set_4 | apply IsS41.set_5 | apply IsS41.set_6) | exact HI0.out)).1), (cellS41_6 (show IsS41 w0 _ g x1000_2 x1001_2 x1002_2 x1003_2 x1004_2 x1005_2 x1006_2 from by repeat (first | (with_reducible first | exact HI0.out | apply IsS41.alloc | apply IsS41.drewN | apply IsS41.drew | apply IsS41.set_0 | apply IsS41.set_1 | apply IsS41.set_2 | apply IsS41.set_3 | apply IsS41.set_4 | apply IsS41.set_5 | apply IsS41.set_6) | exact HI0.out)).1)⟩ (fun hHeld => ?_); refine with_tabW intrusionref09_Reader_Feed.tab12 intrusionref09_Reader_Feed.bits12 (fun HT_ HW_ => ?_)
        generalize wr.drew = w23 at HO_7 HI0 HK HB hHeld ⊢
        refine kP 0 43 #[I, O, O, O, O, O, O, O, O, O, O] ?_ (any_of HT_.out (by kernel_rfl))
        refine kP 1 44 #[I, I, O, O, O, O, O, O, O, O, O] ?_ (any_of HT_.out (by kernel_rfl))
        refine kP 2 45 #[I, I, I, O, O, O, O, O, O, O, O] ?_ (any_of HT_.out (by kernel_rfl))
        refine kP 5 48 #[I, I, I, O, O, I, O, O, O, O, O] ?_ (any_of HT_.out (by kernel_rfl))
        refine kP 6 49 #[I, I, I, O, O, I, I, O, O, O, O] ?_ (any_of HT_.out (by kernel_rfl))
        refine kP 7 50 #[I, I, I, O, O, I, I, I, O, O, O] ?_ (any_of HT_.out (by kernel_rfl))
        refine take_ (i := 3) (N := some 46) (v := ?_) (a' := ?_) #[I, I, I, I, O, I, I, I, O, O, O] rfl rfl (take_ofW HT_.out HW_.out (by kernel_rfl)) (fun _ _ _ h => h) (Or.inl ⟨by rfl, ?_⟩) hHeld ?_ ?_
        rotate_left
        ·rintro w' ⟨s0, s1, s2, s3, s4, s5, s6⟩
         go_simp
         with_reducible rfl
        rotate_left
        ·simp only [Act.put, sA, sZ, sS, i64_w, i32_w]
         rfl
        refine kP 4 47 #[I, I, I, I, I, I, I, I, O, O, O] ?_ (any_of HT_.out (by kernel_rfl))
        refine take_ (i := 8) (N := some 51) (v := ?_) (a' := ?_) #[I, I, I, I, I, I, I, I, I, O, O] rfl rfl (take_ofW HT_.out HW_.out (by kernel_rfl)) (fun _ _ _ h => h) (Or.inl ⟨by rfl, ?_⟩) hHeld ?_ ?_
        rotate_left
        ·rintro w' ⟨s0, s1, s2, s3, s4, s5, s6⟩
         go_simp
         with_reducible rfl
        rotate_left
        ·simp only [Act.put, sA, sZ, sS, i64_w, i32_w]
         rfl
        refine kP 9 52 #[I, I, I, I, I, I, I, I, I, I, O] ?_ (any_of HT_.out (by kernel_rfl))
        refine kP 10 53 #[I, I, I, I, I, I, I, I, I, I, I] ?_ (any_of HT_.out (by kernel_rfl))
        refine done_ (done_of HT_.out (by kernel_rfl)) ?_
        try go_wp2_with (first | ((with_reducible refine gate_callee (f := 32) rfl ?_); refine goesL_ (some 56) rfl rfl Try.func32 (by kernel_rfl) rfl #[.pointer (some ⟨g, 0, none⟩)] rfl kA ?_; (with_reducible refine (intrusionref09_Reader_check.calls k2 g x1000_2 x1001_2 x1002_2 x1003_2 x1004_2 x1005_2 x1006_2 t322 t325 t326 t327 t328 t329 t330 t331 t332 w0 _ ?side1 ?side2 A19.out).mono ?_); (case side1 => repeat (first | (with_reducible first | exact HI0.out | apply IsS41.alloc | apply IsS41.drewN | apply IsS41.drew | apply IsS41.set_0 | apply IsS41.set_1 | apply IsS41.set_2 | apply IsS41.set_3 | apply IsS41.set_4 | apply IsS41.set_5 | apply IsS41.set_6) | exact HI0.out)); (case side2 => exact kB1 HB.out (IsS41.ge HI0.out)); rintro e w24 ⟨v323, rfl, ho0, hi, hb, hk⟩; refine ⟨_, rfl, ?_⟩; replace HO_7 := As (Kd.R_mono (Kd.R_keep (IsS41.apart (show IsS41 w0 _ g x1000_2 x1001_2 x1002_2 x1003_2 x1004_2 x1005_2 x1006_2 from by repeat (first | (with_reducible first | exact HI0.out | apply IsS41.alloc | apply IsS41.drewN | apply IsS41.drew | apply IsS41.set_0 | apply IsS41.set_1 | apply IsS41.set_2 | apply IsS41.set_3 | apply IsS41.set_4 | apply IsS41.set_5 | apply IsS41.set_6) | exact HI0.out)) (kR HO_7.out) (by decide)) hk (fun _ h => h.2)) (fun _ h => h.1)); have HO324 := As (Kd.R_lower ho0 (keep_size (w := w) (g := g) (row := none) (by repeat (first | (with_reducible first | exact HK.out | apply KeepBut.set_ | apply keep_drewN | apply keep_drew | apply keep_alloc) | exact HK.out)))); replace HK := As (KeepBut.trans (by repeat (first | (with_reducible first | exact HK.out | apply KeepBut.set_ | apply keep_drewN | apply keep_drew | apply keep_alloc) | exact HK.out)) hk (.inl rfl)); replace HB := As (hb); replace HI0 := As (hi); (try clear hb); (try clear hk); (try clear hi); (try clear ho0)))
        replace HO_7 := As (Kd.R_drew HO_7.out)
        replace HO324 := As (Kd.R_drew HO324.out)
        replace HI0 := As (IsS41.drew HI0.out)
        replace HK := As (keep_drew HK.out)
        replace HB := As (below_drew1 HB.out)
        obtain ⟨Ao26, co26, eo26⟩ := Kd.R_slice HO324.out
        (first | subst eo26 | (injection eo26 with f1_ f2_ f3_; have f4_ := f1_.symm; have f5_ := f3_.symm; clear f1_ f2_ f3_; subst f4_; subst f5_))
        have p333 : 0 ≤ (1 : Int) := (by omega)
        have q333 : 1 < (t322.length : Int) := of_decide_eq_true (by first | (with_reducible assumption) | assumption)
        obtain ⟨ad333, e333, hx333_0⟩ := Kd.at_int (Kd.R_reads' HO324.out).2.2 1 p333 q333
        cases e333
        (try simp only [show (1 : Int).toNat = 1 from rfl, Nat.reduceMul, Nat.reduceEqDiff, Go.Addr.add, ↓reduceIte] at hx333_0)
        have qi333 : (1 < t322.length) = True := eq_true (by omega)
        (try rw [show ((1 : Int)).toNat = 1 from rfl] at hx333_0)
        replace p333 := eq_true p333
        replace q333 := eq_true q333
        refine start_ (n := 10) (S := fun w' => w'.cell? ⟨g, 0, none⟩ = some (.string t326) ∧ w'.cell? ⟨g, 1, none⟩ = some (.int .i64 t327) ∧ w'.cell? ⟨g, 2, none⟩ = some (.bool t328) ∧ w'.cell? ⟨g, 3, none⟩ = some (.bool t329) ∧ w'.cell? ⟨g, 4, none⟩ = some (.int .i64 t330) ∧ w'.cell? ⟨g, 5, none⟩ = some (.int .i64 t331) ∧ w'.cell? ⟨g, 6, none⟩ = some (.bool t332) ∧ w'.cell? ⟨ad333.block, ad333.off + 1, none⟩ = some (.int .i64 (rd t322 1))) (ds := []) #[O, O, O, O, O, O, O, O, O, O] (by kernel_rfl) rfl rfl ⟨(cellS41_0 (show IsS41 w0 _ g t326 t327 t328 t329 t330 t331 t332 from by repeat (first | (with_reducible first | exact HI0.out | apply IsS41.alloc | apply IsS41.drewN | apply IsS41.drew | apply IsS41.set_0 | apply IsS41.set_1 | apply IsS41.set_2 | apply IsS41.set_3 | apply IsS41.set_4 | apply IsS41.set_5 | apply IsS41.set_6) | exact HI0.out)).1), (cellS41_1 (show IsS41 w0 _ g t326 t327 t328 t329 t330 t331 t332 from by repeat (first | (with_reducible first | exact HI0.out | apply IsS41.alloc | apply IsS41.drewN | apply IsS41.drew | apply IsS41.set_0 | apply IsS41.set_1 | apply IsS41.set_2 | apply IsS41.set_3 | apply IsS41.set_4 | apply IsS41.set_5 | apply IsS41.set_6) | exact HI0.out)).1), (cellS41_2 (show IsS41 w0 _ g t326 t327 t328 t329 t330 t331 t332 from by repeat (first | (with_reducible first | exact HI0.out | apply IsS41.alloc | apply IsS41.drewN | apply IsS41.drew | apply IsS41.set_0 | apply IsS41.set_1 | apply IsS41.set_2 | apply IsS41.set_3 | apply IsS41.set_4 | apply IsS41.set_5 | apply IsS41.set_6) | exact HI0.out)).1), (cellS41_3 (show IsS41 w0 _ g t326 t327 t328 t329 t330 t331 t332 from by repeat (first | (with_reducible first | exact HI0.out | apply IsS41.alloc | apply IsS41.drewN | apply IsS41.drew | apply IsS41.set_0 | apply IsS41.set_1 | apply IsS41.set_2 | apply IsS41.set_3 | apply IsS41.set_4 | apply IsS41.set_5 | apply IsS41.set_6) | exact HI0.out)).1), (cellS41_4 (show IsS41 w0 _ g t326 t327 t328 t329 t330 t331 t332 from by repeat (first | (with_reducible first | exact HI0.out | apply IsS41.alloc | apply IsS41.drewN | apply IsS41.drew | apply IsS41.set_0 | apply IsS41.set_1 | apply IsS41.set_2 | apply IsS41.set_3 | apply IsS41.set_4 | apply IsS41.set_5 | apply IsS41.set_6) | exact HI0.out)).1), (cellS41_5 (show IsS41 w0 _ g t326 t327 t328 t329 t330 t331 t332 from by repeat (first | (with_reducible first | exact HI0.out | apply IsS41.alloc | apply IsS41.drewN | apply IsS41.drew | apply IsS41.set_0 | apply IsS41.set_1 | apply IsS41.set_2 | apply IsS41.set_3 | apply IsS41.set_4 | apply IsS41.set_5 | apply IsS41.set_6) | exact HI0.out)).1), (cellS41_6 (show IsS41 w0 _ g t326 t327 t328 t329 t330 t331 t332 from by repeat (first | (with_reducible first | exact HI0.out | apply IsS41.alloc | apply IsS41.drewN | apply IsS41.drew | apply IsS41.set_0 | apply IsS41.set_1 | apply IsS41.set_2 | apply IsS41.set_3 | apply IsS41.set_4 | apply IsS41.set_5 | apply IsS41.set_6) | exact HI0.out)).1), hx333_0⟩ (fun hHeld => ?_); refine with_tabW intrusionref09_Reader_Feed.tab17 intrusionref09_Reader_Feed.bits17 (fun HT_ HW_ => ?_)
        generalize w24.drew = w25 at HO_7 HO324 HI0 HK HB hx333_0 hHeld ⊢
        refine kP 0 66 #[I, O, O, O, O, O, O, O, O, O] ?_ (any_of HT_.out (by kernel_rfl))
        refine kP 1 67 #[I, I, O, O, O, O, O, O, O, O] ?_ (any_of HT_.out (by kernel_rfl))
        refine kP 2 68 #[I, I, I, O, O, O, O, O, O, O] ?_ (any_of HT_.out (by kernel_rfl))
        refine kP 5 71 #[I, I, I, O, O, I, O, O, O, O] ?_ (any_of HT_.out (by kernel_rfl))
        refine kP 6 72 #[I, I, I, O, O, I, I, O, O, O] ?_ (any_of HT_.out (by kernel_rfl))
        refine take_ (i := 3) (N := some 69) (v := ?_) (a' := ?_) #[I, I, I, I, O, I, I, O, O, O] rfl rfl (take_ofW HT_.out HW_.out (by kernel_rfl)) (fun _ _ _ h => h) (Or.inl ⟨by rfl, ?_⟩) hHeld ?_ ?_
        rotate_left
        ·rintro w' ⟨s0, s1, s2, s3, s4, s5, s6, s7⟩
         go_simp
         with_reducible rfl
        rotate_left
        ·simp only [Act.put, sA, sZ, sS, i64_w, i32_w]
         rfl
        refine kP 4 70 #[I, I, I, I, I, I, I, O, O, O] ?_ (any_of HT_.out (by kernel_rfl))
        refine take_ (i := 7) (N := some 73) (v := ?_) (a' := ?_) #[I, I, I, I, I, I, I, I, O, O] rfl rfl (take_ofW HT_.out HW_.out (by kernel_rfl)) (fun _ _ _ h => h) (Or.inl ⟨by rfl, ?_⟩) hHeld ?_ ?_
        rotate_left
        ·rintro w' ⟨s0, s1, s2, s3, s4, s5, s6, s7⟩
         go_simp
         with_reducible rfl
        rotate_left
        ·simp only [Act.put, sA, sZ, sS, i64_w, i32_w]
         rfl
        refine kP 8 74 #[I, I, I, I, I, I, I, I, I, O] ?_ (any_of HT_.out (by kernel_rfl))
        refine kP 9 10 #[I, I, I, I, I, I, I, I, I, I] ?_ (any_of HT_.out (by kernel_rfl))
        refine done_ (done_of HT_.out (by kernel_rfl)) ?_
        obtain ⟨HGz27, hgz27⟩ := HI0.out
        have hcz27_0 := cellS41_0 HGz27
        have hcz27_1 := cellS41_1 HGz27
        have hcz27_2 := cellS41_2 HGz27
        have hcz27_3 := cellS41_3 HGz27
        have hcz27_4 := cellS41_4 HGz27
        have hcz27_5 := cellS41_5 HGz27
        have hcz27_6 := cellS41_6 HGz27
        have hfz27_0 := blk_frozen HGz27 0
        have hfz27_1 := blk_frozen HGz27 1
        have hfz27_2 := blk_frozen HGz27 2
        have hfz27_3 := blk_frozen HGz27 3
        have hfz27_4 := blk_frozen HGz27 4
        have hfz27_5 := blk_frozen HGz27 5
        have hfz27_6 := blk_frozen HGz27 6
        clear HGz27 hgz27
        try go_wp2
        go_ret2
        exact ⟨_, kE, by (with_reducible repeat (first | apply Kd.R_alloc | apply Kd.R_drewN | apply Kd.R_drew)); exact HO_7.out, by repeat (first | (with_reducible first | exact HI0.out | apply IsS41.alloc | apply IsS41.drewN | apply IsS41.drew | apply IsS41.set_0 | apply IsS41.set_1 | apply IsS41.set_2 | apply IsS41.set_3 | apply IsS41.set_4 | apply IsS41.set_5 | apply IsS41.set_6) | exact HI0.out), by exact kB1 HB.out (IsS41.ge HI0.out), by repeat (first | (with_reducible first | exact HK.out | apply KeepBut.set_ | apply keep_drewN | apply keep_drew | apply keep_alloc) | exact HK.out)⟩
       rw [if_neg c22] at H
       have c22b0 : decide ((t326.size : Int) < (wrap64 ((wrap64 (t327 + 16)) + (rd t322 1)))) = false := decide_eq_false c22
       clear c22
       by_cases c28 : 0 < (t322.length : Int)
       ·rw [if_pos c28] at H
        have c28b0 : decide (0 < (t322.length : Int)) = true := decide_eq_true c28
        have c28b1 : decide (0 < t322.length) = true := decide_eq_true (by omega)
        clear c28
        by_cases c29 : 2 < (t322.length : Int)
        ·rw [if_pos c29] at H
         have c29b0 : decide (2 < (t322.length : Int)) = true := decide_eq_true c29
         have c29b1 : decide (2 < t322.length) = true := decide_eq_true (by omega)
         clear c29
         obtain ⟨ji30, hji30⟩ : ∃ j_ : Int, (wrap64 (t327 + 16)) = j_ := ⟨_, rfl⟩
         replace H : (if 0 ≤ (ji30) then (if (ji30) ≤ (wrap64 ((ji30) + (rd t322 1))) then (if (wrap64 ((ji30) + (rd t322 1))) ≤ (t326.size : Int) then (if x7_2.length < 4398046511104 then (intrusionref09_Reader_Feed.l0 k2 (x7_2 ++ [(⟨rd t322 0, rd t322 2, t326.extract ((ji30) : Int).toNat ((wrap64 ((ji30) + (rd t322 1))) : Int).toNat⟩ : S33)]) t326 (wrap64 ((ji30) + (rd t322 1))) t328 t329 (wrap64 (t330 + 1)) (rd t322 0) t332) else (none)) else (none)) else (none)) else (none)) = some (r1, r2, r3, r4, r5, r6, r7, r8, r9) := by first | (rw [hji30] at H; exact H) | (simp only [hji30] at H ⊢; exact H)
         (try rw [hji30] at c22b0)
         (try rw [hji30] at A19)
         have hji30w : (IntKind.i64.wrap (t327 + 16)) = ji30 := (i64_w _).trans hji30
         by_cases c31 : 0 ≤ (ji30)
         ·rw [if_pos c31] at H
          have c31b0 := eq_true c31
          have c31b1 : decide (0 ≤ (ji30)) = true := decide_eq_true c31
          clear c31
          by_cases c32 : (ji30) ≤ (wrap64 ((ji30) + (rd t322 1)))
          ·rw [if_pos c32] at H
           have c32b0 := eq_true c32
           have c32b1 : decide ((ji30) ≤ (wrap64 ((ji30) + (rd t322 1)))) = true := decide_eq_true c32
           by_cases c33 : (wrap64 ((ji30) + (rd t322 1))) ≤ (t326.size : Int)
           ·rw [if_pos c33] at H
            have c33b0 := eq_true c33
            have c33b1 : decide ((wrap64 ((ji30) + (rd t322 1))) ≤ (t326.size : Int)) = true := decide_eq_true c33
            by_cases c34 : x7_2.length < 4398046511104
            ·rw [if_pos c34] at H
             have LMc34 := As c34
             clear c34
             obtain ⟨y336, hy336⟩ : ∃ y_ : List (S33), y_ = (x7_2 ++ [(⟨rd t322 0, rd t322 2, t326.extract ((ji30) : Int).toNat ((wrap64 ((ji30) + (rd t322 1))) : Int).toNat⟩ : S33)]) := ⟨_, rfl⟩
             replace H : (intrusionref09_Reader_Feed.l0 k2 y336 t326 (wrap64 ((ji30) + (rd t322 1))) t328 t329 (wrap64 (t330 + 1)) (rd t322 0) t332) = some (r1, r2, r3, r4, r5, r6, r7, r8, r9) := by first | (rw [hy336]; with_reducible exact H) | (have H2_ := (Option.bind_some _ _).symm.trans H; rw [hy336]; with_reducible exact H2_) | (have H2_ := (Option.bind_some _ _).symm.trans H; with_reducible exact H2_) | with_reducible exact H | (rw [hy336]; exact H) | exact H
             have Ny336 := As hy336
             clear hy336
             have H' := As H
             clear H
             try go_wp2
             replace HO_7 := As (Kd.R_drew HO_7.out)
             replace HI0 := As (IsS41.drew HI0.out)
             replace HK := As (keep_drew HK.out)
             replace HB := As (below_drew1 HB.out)
             refine start_ (n := 11) (S := fun w' => w'.cell? ⟨g, 0, none⟩ = some (.string x1000_2) ∧ w'.cell? ⟨g, 1, none⟩ = some (.int .i64 x1001_2) ∧ w'.cell? ⟨g, 2, none⟩ = some (.bool x1002_2) ∧ w'.cell? ⟨g, 3, none⟩ = some (.bool x1003_2) ∧ w'.cell? ⟨g, 4, none⟩ = some (.int .i64 x1004_2) ∧ w'.cell? ⟨g, 5, none⟩ = some (.int .i64 x1005_2) ∧ w'.cell? ⟨g, 6, none⟩ = some (.bool x1006_2)) (ds := []) #[O, O, O, O, O, O, O, O, O, O, O] (by kernel_rfl) rfl rfl ⟨(cellS41_0 (show IsS41 w0 _ g x1000_2 x1001_2 x1002_2 x1003_2 x1004_2 x1005_2 x1006_2 from by repeat (first | (with_reducible first | exact HI0.out | apply IsS41.alloc | apply IsS41.drewN | apply IsS41.drew | apply IsS41.set_0 | apply IsS41.set_1 | apply IsS41.set_2 | apply IsS41.set_3 | apply IsS41.set_4 | apply IsS41.set_5 | apply IsS41.set_6) | exact HI0.out)).1), (cellS41_1 (show IsS41 w0 _ g x1000_2 x1001_2 x1002_2 x1003_2 x1004_2 x1005_2 x1006_2 from by repeat (first | (with_reducible first | exact HI0.out | apply IsS41.alloc | apply IsS41.drewN | apply IsS41.drew | apply IsS41.set_0 | apply IsS41.set_1 | apply IsS41.set_2 | apply IsS41.set_3 | apply IsS41.set_4 | apply IsS41.set_5 | apply IsS41.set_6) | exact HI0.out)).1), (cellS41_2 (show IsS41 w0 _ g x1000_2 x1001_2 x1002_2 x1003_2 x1004_2 x1005_2 x1006_2 from by repeat (first | (with_reducible first | exact HI0.out | apply IsS41.alloc | apply IsS41.drewN | apply IsS41.drew | apply IsS41.set_0 | apply IsS41.set_1 | apply IsS41.set_2 | apply IsS41.set_3 | apply IsS41.set_4 | apply IsS41.set_5 | apply IsS41.set_6) | exact HI0.out)).1), (cellS41_3 (show IsS41 w0 _ g x1000_2 x1001_2 x1002_2 x1003_2 x1004_2 x1005_2 x1006_2 from by repeat (first | (with_reducible first | exact HI0.out | apply IsS41.alloc | apply IsS41.drewN | apply IsS41.drew | apply IsS41.set_0 | apply IsS41.set_1 | apply IsS41.set_2 | apply IsS41.set_3 | apply IsS41.set_4 | apply IsS41.set_5 | apply IsS41.set_6) | exact HI0.out)).1), (cellS41_4 (show IsS41 w0 _ g x1000_2 x1001_2 x1002_2 x1003_2 x1004_2 x1005_2 x1006_2 from by repeat (first | (with_reducible first | exact HI0.out | apply IsS41.alloc | apply IsS41.drewN | apply IsS41.drew | apply IsS41.set_0 | apply IsS41.set_1 | apply IsS41.set_2 | apply IsS41.set_3 | apply IsS41.set_4 | apply IsS41.set_5 | apply IsS41.set_6) | exact HI0.out)).1), (cellS41_5 (show IsS41 w0 _ g x1000_2 x1001_2 x1002_2 x1003_2 x1004_2 x1005_2 x1006_2 from by repeat (first | (with_reducible first | exact HI0.out | apply IsS41.alloc | apply IsS41.drewN | apply IsS41.drew | apply IsS41.set_0 | apply IsS41.set_1 | apply IsS41.set_2 | apply IsS41.set_3 | apply IsS41.set_4 | apply IsS41.set_5 | apply IsS41.set_6) | exact HI0.out)).1), (cellS41_6 (show IsS41 w0 _ g x1000_2 x1001_2 x1002_2 x1003_2 x1004_2 x1005_2 x1006_2 from by repeat (first | (with_reducible first | exact HI0.out | apply IsS41.alloc | apply IsS41.drewN | apply IsS41.drew | apply IsS41.set_0 | apply IsS41.set_1 | apply IsS41.set_2 | apply IsS41.set_3 | apply IsS41.set_4 | apply IsS41.set_5 | apply IsS41.set_6) | exact HI0.out)).1)⟩ (fun hHeld => ?_); refine with_tabW intrusionref09_Reader_Feed.tab12 intrusionref09_Reader_Feed.bits12 (fun HT_ HW_ => ?_)
             generalize wr.drew = w35 at HO_7 HI0 HK HB hHeld ⊢
             refine kP 0 43 #[I, O, O, O, O, O, O, O, O, O, O] ?_ (any_of HT_.out (by kernel_rfl))
             refine kP 1 44 #[I, I, O, O, O, O, O, O, O, O, O] ?_ (any_of HT_.out (by kernel_rfl))
             refine kP 2 45 #[I, I, I, O, O, O, O, O, O, O, O] ?_ (any_of HT_.out (by kernel_rfl))
             refine kP 5 48 #[I, I, I, O, O, I, O, O, O, O, O] ?_ (any_of HT_.out (by kernel_rfl))
             refine kP 6 49 #[I, I, I, O, O, I, I, O, O, O, O] ?_ (any_of HT_.out (by kernel_rfl))
             refine kP 7 50 #[I, I, I, O, O, I, I, I, O, O, O] ?_ (any_of HT_.out (by kernel_rfl))
             refine take_ (i := 3) (N := some 46) (v := ?_) (a' := ?_) #[I, I, I, I, O, I, I, I, O, O, O] rfl rfl (take_ofW HT_.out HW_.out (by kernel_rfl)) (fun _ _ _ h => h) (Or.inl ⟨by rfl, ?_⟩) hHeld ?_ ?_
             rotate_left
             ·rintro w' ⟨s0, s1, s2, s3, s4, s5, s6⟩
              go_simp
              with_reducible rfl
             rotate_left
             ·simp only [Act.put, sA, sZ, sS, i64_w, i32_w]
              rfl
             refine kP 4 47 #[I, I, I, I, I, I, I, I, O, O, O] ?_ (any_of HT_.out (by kernel_rfl))
             refine take_ (i := 8) (N := some 51) (v := ?_) (a' := ?_) #[I, I, I, I, I, I, I, I, I, O, O] rfl rfl (take_ofW HT_.out HW_.out (by kernel_rfl)) (fun _ _ _ h => h) (Or.inl ⟨by rfl, ?_⟩) hHeld ?_ ?_
             rotate_left
             ·rintro w' ⟨s0, s1, s2, s3, s4, s5, s6⟩
              go_simp
              with_reducible rfl
             rotate_left
             ·simp only [Act.put, sA, sZ, sS, i64_w, i32_w]
              rfl
             refine kP 9 52 #[I, I, I, I, I, I, I, I, I, I, O] ?_ (any_of HT_.out (by kernel_rfl))
             refine kP 10 53 #[I, I, I, I, I, I, I, I, I, I, I] ?_ (any_of HT_.out (by kernel_rfl))
             refine done_ (done_of HT_.out (by kernel_rfl)) ?_
             try go_wp2_with (first | ((with_reducible refine gate_callee (f := 32) rfl ?_); refine goesL_ (some 56) rfl rfl Try.func32 (by kernel_rfl) rfl #[.pointer (some ⟨g, 0, none⟩)] rfl kA ?_; (with_reducible refine (intrusionref09_Reader_check.calls k2 g x1000_2 x1001_2 x1002_2 x1003_2 x1004_2 x1005_2 x1006_2 t322 t325 t326 t327 t328 t329 t330 t331 t332 w0 _ ?side1 ?side2 A19.out).mono ?_); (case side1 => repeat (first | (with_reducible first | exact HI0.out | apply IsS41.alloc | apply IsS41.drewN | apply IsS41.drew | apply IsS41.set_0 | apply IsS41.set_1 | apply IsS41.set_2 | apply IsS41.set_3 | apply IsS41.set_4 | apply IsS41.set_5 | apply IsS41.set_6) | exact HI0.out)); (case side2 => exact kB1 HB.out (IsS41.ge HI0.out)); rintro e w36 ⟨v323, rfl, ho0, hi, hb, hk⟩; refine ⟨_, rfl, ?_⟩; replace HO_7 := As (Kd.R_mono (Kd.R_keep (IsS41.apart (show IsS41 w0 _ g x1000_2 x1001_2 x1002_2 x1003_2 x1004_2 x1005_2 x1006_2 from by repeat (first | (with_reducible first | exact HI0.out | apply IsS41.alloc | apply IsS41.drewN | apply IsS41.drew | apply IsS41.set_0 | apply IsS41.set_1 | apply IsS41.set_2 | apply IsS41.set_3 | apply IsS41.set_4 | apply IsS41.set_5 | apply IsS41.set_6) | exact HI0.out)) (kR HO_7.out) (by decide)) hk (fun _ h => h.2)) (fun _ h => h.1)); have HO324 := As (Kd.R_lower ho0 (keep_size (w := w) (g := g) (row := none) (by repeat (first | (with_reducible first | exact HK.out | apply KeepBut.set_ | apply keep_drewN | apply keep_drew | apply keep_alloc) | exact HK.out)))); replace HK := As (KeepBut.trans (by repeat (first | (with_reducible first | exact HK.out | apply KeepBut.set_ | apply keep_drewN | apply keep_drew | apply keep_alloc) | exact HK.out)) hk (.inl rfl)); replace HB := As (hb); replace HI0 := As (hi); (try clear hb); (try clear hk); (try clear hi); (try clear ho0)))
             replace HO_7 := As (Kd.R_drew HO_7.out)
             replace HO324 := As (Kd.R_drew HO324.out)
             replace HI0 := As (IsS41.drew HI0.out)
             replace HK := As (keep_drew HK.out)
             replace HB := As (below_drew1 HB.out)
             obtain ⟨Ao38, co38, eo38⟩ := Kd.R_slice HO324.out
             (first | subst eo38 | (injection eo38 with f1_ f2_ f3_; have f4_ := f1_.symm; have f5_ := f3_.symm; clear f1_ f2_ f3_; subst f4_; subst f5_))
             have p333 : 0 ≤ (1 : Int) := (by omega)
             have q333 : 1 < (t322.length : Int) := of_decide_eq_true (by first | (with_reducible assumption) | assumption)
             obtain ⟨ad333, e333, hx333_0⟩ := Kd.at_int (Kd.R_reads' HO324.out).2.2 1 p333 q333
             cases e333
             (try simp only [show (1 : Int).toNat = 1 from rfl, Nat.reduceMul, Nat.reduceEqDiff, Go.Addr.add, ↓reduceIte] at hx333_0)
             have qi333 : (1 < t322.length) = True := eq_true (by omega)
             (try rw [show ((1 : Int)).toNat = 1 from rfl] at hx333_0)
             replace p333 := eq_true p333
             replace q333 := eq_true q333
             refine start_ (n := 10) (S := fun w' => w'.cell? ⟨g, 0, none⟩ = some (.string t326) ∧ w'.cell? ⟨g, 1, none⟩ = some (.int .i64 t327) ∧ w'.cell? ⟨g, 2, none⟩ = some (.bool t328) ∧ w'.cell? ⟨g, 3, none⟩ = some (.bool t329) ∧ w'.cell? ⟨g, 4, none⟩ = some (.int .i64 t330) ∧ w'.cell? ⟨g, 5, none⟩ = some (.int .i64 t331) ∧ w'.cell? ⟨g, 6, none⟩ = some (.bool t332) ∧ w'.cell? ⟨ad333.block, ad333.off + 1, none⟩ = some (.int .i64 (rd t322 1))) (ds := []) #[O, O, O, O, O, O, O, O, O, O] (by kernel_rfl) rfl rfl ⟨(cellS41_0 (show IsS41 w0 _ g t326 t327 t328 t329 t330 t331 t332 from by repeat (first | (with_reducible first | exact HI0.out | apply IsS41.alloc | apply IsS41.drewN | apply IsS41.drew | apply IsS41.set_0 | apply IsS41.set_1 | apply IsS41.set_2 | apply IsS41.set_3 | apply IsS41.set_4 | apply IsS41.set_5 | apply IsS41.set_6) | exact HI0.out)).1), (cellS41_1 (show IsS41 w0 _ g t326 t327 t328 t329 t330 t331 t332 from by repeat (first | (with_reducible first | exact HI0.out | apply IsS41.alloc | apply IsS41.drewN | apply IsS41.drew | apply IsS41.set_0 | apply IsS41.set_1 | apply IsS41.set_2 | apply IsS41.set_3 | apply IsS41.set_4 | apply IsS41.set_5 | apply IsS41.set_6) | exact HI0.out)).1), (cellS41_2 (show IsS41 w0 _ g t326 t327 t328 t329 t330 t331 t332 from by repeat (first | (with_reducible first | exact HI0.out | apply IsS41.alloc | apply IsS41.drewN | apply IsS41.drew | apply IsS41.set_0 | apply IsS41.set_1 | apply IsS41.set_2 | apply IsS41.set_3 | apply IsS41.set_4 | apply IsS41.set_5 | apply IsS41.set_6) | exact HI0.out)).1), (cellS41_3 (show IsS41 w0 _ g t326 t327 t328 t329 t330 t331 t332 from by repeat (first | (with_reducible first | exact HI0.out | apply IsS41.alloc | apply IsS41.drewN | apply IsS41.drew | apply IsS41.set_0 | apply IsS41.set_1 | apply IsS41.set_2 | apply IsS41.set_3 | apply IsS41.set_4 | apply IsS41.set_5 | apply IsS41.set_6) | exact HI0.out)).1), (cellS41_4 (show IsS41 w0 _ g t326 t327 t328 t329 t330 t331 t332 from by repeat (first | (with_reducible first | exact HI0.out | apply IsS41.alloc | apply IsS41.drewN | apply IsS41.drew | apply IsS41.set_0 | apply IsS41.set_1 | apply IsS41.set_2 | apply IsS41.set_3 | apply IsS41.set_4 | apply IsS41.set_5 | apply IsS41.set_6) | exact HI0.out)).1), (cellS41_5 (show IsS41 w0 _ g t326 t327 t328 t329 t330 t331 t332 from by repeat (first | (with_reducible first | exact HI0.out | apply IsS41.alloc | apply IsS41.drewN | apply IsS41.drew | apply IsS41.set_0 | apply IsS41.set_1 | apply IsS41.set_2 | apply IsS41.set_3 | apply IsS41.set_4 | apply IsS41.set_5 | apply IsS41.set_6) | exact HI0.out)).1), (cellS41_6 (show IsS41 w0 _ g t326 t327 t328 t329 t330 t331 t332 from by repeat (first | (with_reducible first | exact HI0.out | apply IsS41.alloc | apply IsS41.drewN | apply IsS41.drew | apply IsS41.set_0 | apply IsS41.set_1 | apply IsS41.set_2 | apply IsS41.set_3 | apply IsS41.set_4 | apply IsS41.set_5 | apply IsS41.set_6) | exact HI0.out)).1), hx333_0⟩ (fun hHeld => ?_); refine with_tabW intrusionref09_Reader_Feed.tab17 intrusionref09_Reader_Feed.bits17 (fun HT_ HW_ => ?_)
             generalize w36.drew = w37 at HO_7 HO324 HI0 HK HB hx333_0 hHeld ⊢
             refine kP 0 66 #[I, O, O, O, O, O, O, O, O, O] ?_ (any_of HT_.out (by kernel_rfl))
             refine kP 1 67 #[I, I, O, O, O, O, O, O, O, O] ?_ (any_of HT_.out (by kernel_rfl))
             refine kP 2 68 #[I, I, I, O, O, O, O, O, O, O] ?_ (any_of HT_.out (by kernel_rfl))
             refine kP 5 71 #[I, I, I, O, O, I, O, O, O, O] ?_ (any_of HT_.out (by kernel_rfl))
             refine kP 6 72 #[I, I, I, O, O, I, I, O, O, O] ?_ (any_of HT_.out (by kernel_rfl))
             refine take_ (i := 3) (N := some 69) (v := ?_) (a' := ?_) #[I, I, I, I, O, I, I, O, O, O] rfl rfl (take_ofW HT_.out HW_.out (by kernel_rfl)) (fun _ _ _ h => h) (Or.inl ⟨by rfl, ?_⟩) hHeld ?_ ?_
             rotate_left
             ·rintro w' ⟨s0, s1, s2, s3, s4, s5, s6, s7⟩
              go_simp
              with_reducible rfl
             rotate_left
             ·simp only [Act.put, sA, sZ, sS, i64_w, i32_w]
              rfl
             refine kP 4 70 #[I, I, I, I, I, I, I, O, O, O] ?_ (any_of HT_.out (by kernel_rfl))
             refine take_ (i := 7) (N := some 73) (v := ?_) (a' := ?_) #[I, I, I, I, I, I, I, I, O, O] rfl rfl (take_ofW HT_.out HW_.out (by kernel_rfl)) (fun _ _ _ h => h) (Or.inl ⟨by rfl, ?_⟩) hHeld ?_ ?_
             rotate_left
             ·rintro w' ⟨s0, s1, s2, s3, s4, s5, s6, s7⟩
              go_simp
              with_reducible rfl
             rotate_left
             ·simp only [Act.put, sA, sZ, sS, i64_w, i32_w]
              rfl
             refine kP 8 74 #[I, I, I, I, I, I, I, I, I, O] ?_ (any_of HT_.out (by kernel_rfl))
             refine kP 9 10 #[I, I, I, I, I, I, I, I, I, I] ?_ (any_of HT_.out (by kernel_rfl))
             refine done_ (done_of HT_.out (by kernel_rfl)) ?_
             obtain ⟨HGz39, hgz39⟩ := HI0.out
             have hcz39_0 := cellS41_0 HGz39
             have hcz39_1 := cellS41_1 HGz39
             have hcz39_2 := cellS41_2 HGz39
             have hcz39_3 := cellS41_3 HGz39
             have hcz39_4 := cellS41_4 HGz39
             have hcz39_5 := cellS41_5 HGz39
             have hcz39_6 := cellS41_6 HGz39
             have hfz39_0 := blk_frozen HGz39 0
             have hfz39_1 := blk_frozen HGz39 1
             have hfz39_2 := blk_frozen HGz39 2
             have hfz39_3 := blk_frozen HGz39 3
             have hfz39_4 := blk_frozen HGz39 4
             have hfz39_5 := blk_frozen HGz39 5
             have hfz39_6 := blk_frozen HGz39 6
             clear HGz39 hgz39
             try go_wp2
             replace HO_7 := As (Kd.R_drew HO_7.out)
             replace HO324 := As (Kd.R_drew HO324.out)
             replace HI0 := As (IsS41.drew HI0.out)
             replace HK := As (keep_drew HK.out)
             replace HB := As (below_drew1 HB.out)
             have p334 : 0 ≤ (0 : Int) := (by omega)
             have q334 : 0 < (t322.length : Int) := of_decide_eq_true (by first | (with_reducible assumption) | assumption)
             obtain ⟨ad334, e334, hx334_0⟩ := Kd.at_int (Kd.R_reads' HO324.out).2.2 0 p334 q334
             obtain rfl : ad333 = ad334 := (by injection e334)
             have qi334 : (0 < t322.length) = True := eq_true (by omega)
             (try rw [show ((0 : Int)).toNat = 0 from rfl] at hx334_0)
             (try rw [Addr.add_zero'] at hx334_0)
             replace p334 := eq_true p334
             replace q334 := eq_true q334
             have p335 : 0 ≤ (2 : Int) := (by omega)
             have q335 : 2 < (t322.length : Int) := of_decide_eq_true (by first | (with_reducible assumption) | assumption)
             obtain ⟨ad335, e335, hx335_0⟩ := Kd.at_int (Kd.R_reads' HO324.out).2.2 2 p335 q335
             obtain rfl : ad333 = ad335 := (by injection e335)
             (try simp only [show (2 : Int).toNat = 2 from rfl, Nat.reduceMul, Nat.reduceEqDiff, Go.Addr.add, ↓reduceIte] at hx335_0)
             have qi335 : (2 < t322.length) = True := eq_true (by omega)
             (try rw [show ((2 : Int)).toNat = 2 from rfl] at hx335_0)
             replace p335 := eq_true p335
             replace q335 := eq_true q335
             refine start_ (n := 22) (S := fun w' => w'.cell? ⟨g, 0, none⟩ = some (.string t326) ∧ w'.cell? ⟨g, 1, none⟩ = some (.int .i64 t327) ∧ w'.cell? ⟨g, 2, none⟩ = some (.bool t328) ∧ w'.cell? ⟨g, 3, none⟩ = some (.bool t329) ∧ w'.cell? ⟨g, 4, none⟩ = some (.int .i64 t330) ∧ w'.cell? ⟨g, 5, none⟩ = some (.int .i64 t331) ∧ w'.cell? ⟨g, 6, none⟩ = some (.bool t332) ∧ w'.cell? ad333 = some (.int .i64 (rd t322 0)) ∧ w'.cell? ⟨ad333.block, ad333.off + 2, none⟩ = some (.int .i64 (rd t322 2))) (ds := [19, 20]) #[O, O, O, O, O, O, O, O, O, O, O, O, O, O, O, O, O, O, O, O, O, O] (by kernel_rfl) rfl rfl ⟨(cellS41_0 (show IsS41 w0 _ g t326 t327 t328 t329 t330 t331 t332 from by repeat (first | (with_reducible first | exact HI0.out | apply IsS41.alloc | apply IsS41.drewN | apply IsS41.drew | apply IsS41.set_0 | apply IsS41.set_1 | apply IsS41.set_2 | apply IsS41.set_3 | apply IsS41.set_4 | apply IsS41.set_5 | apply IsS41.set_6) | exact HI0.out)).1), (cellS41_1 (show IsS41 w0 _ g t326 t327 t328 t329 t330 t331 t332 from by repeat (first | (with_reducible first | exact HI0.out | apply IsS41.alloc | apply IsS41.drewN | apply IsS41.drew | apply IsS41.set_0 | apply IsS41.set_1 | apply IsS41.set_2 | apply IsS41.set_3 | apply IsS41.set_4 | apply IsS41.set_5 | apply IsS41.set_6) | exact HI0.out)).1), (cellS41_2 (show IsS41 w0 _ g t326 t327 t328 t329 t330 t331 t332 from by repeat (first | (with_reducible first | exact HI0.out | apply IsS41.alloc | apply IsS41.drewN | apply IsS41.drew | apply IsS41.set_0 | apply IsS41.set_1 | apply IsS41.set_2 | apply IsS41.set_3 | apply IsS41.set_4 | apply IsS41.set_5 | apply IsS41.set_6) | exact HI0.out)).1), (cellS41_3 (show IsS41 w0 _ g t326 t327 t328 t329 t330 t331 t332 from by repeat (first | (with_reducible first | exact HI0.out | apply IsS41.alloc | apply IsS41.drewN | apply IsS41.drew | apply IsS41.set_0 | apply IsS41.set_1 | apply IsS41.set_2 | apply IsS41.set_3 | apply IsS41.set_4 | apply IsS41.set_5 | apply IsS41.set_6) | exact HI0.out)).1), (cellS41_4 (show IsS41 w0 _ g t326 t327 t328 t329 t330 t331 t332 from by repeat (first | (with_reducible first | exact HI0.out | apply IsS41.alloc | apply IsS41.drewN | apply IsS41.drew | apply IsS41.set_0 | apply IsS41.set_1 | apply IsS41.set_2 | apply IsS41.set_3 | apply IsS41.set_4 | apply IsS41.set_5 | apply IsS41.set_6) | exact HI0.out)).1), (cellS41_5 (show IsS41 w0 _ g t326 t327 t328 t329 t330 t331 t332 from by repeat (first | (with_reducible first | exact HI0.out | apply IsS41.alloc | apply IsS41.drewN | apply IsS41.drew | apply IsS41.set_0 | apply IsS41.set_1 | apply IsS41.set_2 | apply IsS41.set_3 | apply IsS41.set_4 | apply IsS41.set_5 | apply IsS41.set_6) | exact HI0.out)).1), (cellS41_6 (show IsS41 w0 _ g t326 t327 t328 t329 t330 t331 t332 from by repeat (first | (with_reducible first | exact HI0.out | apply IsS41.alloc | apply IsS41.drewN | apply IsS41.drew | apply IsS41.set_0 | apply IsS41.set_1 | apply IsS41.set_2 | apply IsS41.set_3 | apply IsS41.set_4 | apply IsS41.set_5 | apply IsS41.set_6) | exact HI0.out)).1), hx334_0, hx335_0⟩ (fun hHeld => ?_); refine with_tabW intrusionref09_Reader_Feed.tab20 intrusionref09_Reader_Feed.bits20 (fun HT_ HW_ => ?_)
             generalize w37.drew = w40 at HO_7 HO324 HI0 HK HB hx334_0 hx335_0 hHeld ⊢
             refine kP 0 83 #[I, O, O, O, O, O, O, O, O, O, O, O, O, O, O, O, O, O, O, O, O, O] ?_ (any_of HT_.out (by kernel_rfl))
             refine kP 1 84 #[I, I, O, O, O, O, O, O, O, O, O, O, O, O, O, O, O, O, O, O, O, O] ?_ (any_of HT_.out (by kernel_rfl))
             refine kP 2 85 #[I, I, I, O, O, O, O, O, O, O, O, O, O, O, O, O, O, O, O, O, O, O] ?_ (any_of HT_.out (by kernel_rfl))
             refine kP 4 87 #[I, I, I, O, I, O, O, O, O, O, O, O, O, O, O, O, O, O, O, O, O, O] ?_ (any_of HT_.out (by kernel_rfl))
             refine kP 5 88 #[I, I, I, O, I, I, O, O, O, O, O, O, O, O, O, O, O, O, O, O, O, O] ?_ (any_of HT_.out (by kernel_rfl))
             refine kP 7 90 #[I, I, I, O, I, I, O, I, O, O, O, O, O, O, O, O, O, O, O, O, O, O] ?_ (any_of HT_.out (by kernel_rfl))
             refine kP 8 91 #[I, I, I, O, I, I, O, I, I, O, O, O, O, O, O, O, O, O, O, O, O, O] ?_ (any_of HT_.out (by kernel_rfl))
             refine kP 9 92 #[I, I, I, O, I, I, O, I, I, I, O, O, O, O, O, O, O, O, O, O, O, O] ?_ (any_of HT_.out (by kernel_rfl))
             refine kP 11 94 #[I, I, I, O, I, I, O, I, I, I, O, I, O, O, O, O, O, O, O, O, O, O] ?_ (any_of HT_.out (by kernel_rfl))
             refine kP 12 95 #[I, I, I, O, I, I, O, I, I, I, O, I, I, O, O, O, O, O, O, O, O, O] ?_ (any_of HT_.out (by kernel_rfl))
             refine kP 13 96 #[I, I, I, O, I, I, O, I, I, I, O, I, I, I, O, O, O, O, O, O, O, O] ?_ (any_of HT_.out (by kernel_rfl))
             refine kP 16 99 #[I, I, I, O, I, I, O, I, I, I, O, I, I, I, O, O, I, O, O, O, O, O] ?_ (any_of HT_.out (by kernel_rfl))
             refine take_ (i := 3) (N := some 86) (v := ?_) (a' := ?_) #[I, I, I, I, I, I, O, I, I, I, O, I, I, I, O, O, I, O, O, O, O, O] rfl rfl (take_ofW HT_.out HW_.out (by kernel_rfl)) (fun _ _ _ h => h) (Or.inl ⟨by rfl, ?_⟩) hHeld ?_ ?_
             rotate_left
             ·rintro w' ⟨s0, s1, s2, s3, s4, s5, s6, s7, s8⟩
              go_simp
              with_reducible rfl
             rotate_left
             ·simp only [Act.put, sA, sZ, sS, i64_w, i32_w]
              rfl
             refine take_ (i := 6) (N := some 89) (v := ?_) (a' := ?_) #[I, I, I, I, I, I, I, I, I, I, O, I, I, I, O, O, I, O, O, O, O, O] rfl rfl (take_ofW HT_.out HW_.out (by kernel_rfl)) (fun _ _ _ h => h) (Or.inl ⟨by rfl, ?_⟩) hHeld ?_ ?_
             rotate_left
             ·rintro w' ⟨s0, s1, s2, s3, s4, s5, s6, s7, s8⟩
              go_simp
              with_reducible rfl
             rotate_left
             ·simp only [Act.put, sA, sZ, sS, i64_w, i32_w]
              rfl
             refine take_ (i := 10) (N := some 93) (v := ?_) (a' := ?_) #[I, I, I, I, I, I, I, I, I, I, I, I, I, I, O, O, I, O, O, O, O, O] rfl rfl (take_ofW HT_.out HW_.out (by kernel_rfl)) (fun _ _ _ h => h) (Or.inl ⟨by rfl, ?_⟩) hHeld ?_ ?_
             rotate_left
             ·rintro w' ⟨s0, s1, s2, s3, s4, s5, s6, s7, s8⟩
              go_simp
              with_reducible rfl
             rotate_left
             ·simp only [Act.put, sA, sZ, sS, i64_w, i32_w]
              rfl
             refine take_ (i := 14) (N := some 97) (v := ?_) (a' := ?_) #[I, I, I, I, I, I, I, I, I, I, I, I, I, I, I, O, I, O, O, O, O, O] rfl rfl (take_ofW HT_.out HW_.out (by kernel_rfl)) (fun _ _ _ h => h) (Or.inl ⟨by rfl, ?_⟩) hHeld ?_ ?_
             rotate_left
             ·rintro w' ⟨s0, s1, s2, s3, s4, s5, s6, s7, s8⟩
              go_simp
              with_reducible rfl
             rotate_left
             ·simp only [Act.put, sA, sZ, sS, i64_w, i32_w]
              rfl
             refine kP 15 98 #[I, I, I, I, I, I, I, I, I, I, I, I, I, I, I, I, I, O, O, O, O, O] ?_ (any_of HT_.out (by kernel_rfl))
             refine kP 17 100 #[I, I, I, I, I, I, I, I, I, I, I, I, I, I, I, I, I, I, O, O, O, O] ?_ (any_of HT_.out (by kernel_rfl))
             refine kP 18 101 #[I, I, I, I, I, I, I, I, I, I, I, I, I, I, I, I, I, I, I, O, O, O] ?_ (any_of HT_.out (by kernel_rfl))
             refine last_ (i := 19) (N := some 102) #[I, I, I, I, I, I, I, I, I, I, I, I, I, I, I, I, I, I, I, I, O, O] rfl rfl (one_of HT_.out (by kernel_rfl)) (by decide) (fun K hK => ?_)
             refine value_ (w1 := ?_) (v := ?_) (by rfl) rfl ?_ ?_
             rotate_left 2
             ·go_simp
              constructor
              ·rfl
              rfl
             refine hK.out _ _ ?_
             clear hK K
             refine norm_ (a' := ?_) ?_ ?_
             rotate_left
             ·show Act.put _ (some 102) _ = _
              simp only [Act.put, sA, sZ, sS, i64_w, i32_w]
              rfl
             refine last_ (i := 20) (N := some 103) #[I, I, I, I, I, I, I, I, I, I, I, I, I, I, I, I, I, I, I, I, I, O] rfl rfl (one_of HT_.out (by kernel_rfl)) (by decide) (fun K hK => ?_)
             refine Kd.R_append_step k33 w.heap.size (by rfl) (.tmp 83) (.tmp 102) 23 33 (.agg #[(.int .i64 0), (.int .i64 0), (.string ⟨#[]⟩)]) 32 rfl Try.underlying23 info33 rfl (by decide) (by omega) u7 x7_2 (⟨rd t322 0, rd t322 2, t326.extract ((ji30) : Int).toNat ((wrap64 ((ji30) + (rd t322 1))) : Int).toNat⟩ : S33) [.int .i64 (rd t322 0), .int .i64 (rd t322 2), .string (t326.extract ((ji30) : Int).toNat ((wrap64 ((ji30) + (rd t322 1))) : Int).toNat)] (fun _ => True) (fun _ => False) rfl rfl ?aP (fun _ hk => hk.elim) ?aF ?aO (Below.refl _ _) ?aS ?aL ?_
             (case aP => exact k33_mkM _ _ _ (⟨rd t322 0, rd t322 2, t326.extract ((ji30) : Int).toNat ((wrap64 ((ji30) + (rd t322 1))) : Int).toNat⟩ : S33))
             (case aF => exact (fun _ _ => trivial))
             (case aO => exact (kR HO_7.out))
             (case aS => exact (keep_size (w := w) (g := g) (row := none) (by repeat (first | (with_reducible first | exact HK.out | apply KeepBut.set_ | apply keep_drewN | apply keep_drew | apply keep_alloc) | exact HK.out))))
             (case aL => have := LMc34.out; omega)
             intro v337 w41 ho hb hg hat
             rw [← Ny336.out] at ho
             replace HO324 := As (Kd.R_over' (kR HO324.out) (Kd.R_typed (kR HO_7.out)) (by decide) hg)
             replace HB := As (below_weaken (kB1 HB.out (IsS41.ge HI0.out)) HL.out hb)
             replace HI0 := As (IsS41.grown (show IsS41 w0 _ g t326 t327 t328 t329 t330 t331 t332 from by repeat (first | (with_reducible first | exact HI0.out | apply IsS41.alloc | apply IsS41.drewN | apply IsS41.drew | apply IsS41.set_0 | apply IsS41.set_1 | apply IsS41.set_2 | apply IsS41.set_3 | apply IsS41.set_4 | apply IsS41.set_5 | apply IsS41.set_6) | exact HI0.out)) hg (IsS41.own_ne HI0.out HO_7.out (by decide)))
             replace HK := As (KeepBut.trans (by repeat (first | (with_reducible first | exact HK.out | apply KeepBut.set_ | apply keep_drewN | apply keep_drew | apply keep_alloc) | exact HK.out)) (KeepBut.of_grown hg g) (Kd.R_base2 HO_7.out))
             have HO338 := As (ho)
             clear HO_7
             clear ho hb hg hat
             refine hK.out _ _ ?_
             clear hK K
             refine norm_ (a' := ?_) ?_ ?_
             rotate_left
             ·show Act.put _ (some 103) _ = _
              simp only [Act.put, sA, sZ, sS, i64_w, i32_w]
              rfl
             refine kP 21 7 #[I, I, I, I, I, I, I, I, I, I, I, I, I, I, I, I, I, I, I, I, I, I] ?_ (any_of HT_.out (by kernel_rfl))
             refine done_ (done_of HT_.out (by kernel_rfl)) ?_
             obtain ⟨HGz42, hgz42⟩ := HI0.out
             have hcz42_0 := cellS41_0 HGz42
             have hcz42_1 := cellS41_1 HGz42
             have hcz42_2 := cellS41_2 HGz42
             have hcz42_3 := cellS41_3 HGz42
             have hcz42_4 := cellS41_4 HGz42
             have hcz42_5 := cellS41_5 HGz42
             have hcz42_6 := cellS41_6 HGz42
             have hfz42_0 := blk_frozen HGz42 0
             have hfz42_1 := blk_frozen HGz42 1
             have hfz42_2 := blk_frozen HGz42 2
             have hfz42_3 := blk_frozen HGz42 3
             have hfz42_4 := blk_frozen HGz42 4
             have hfz42_5 := blk_frozen HGz42 5
             have hfz42_6 := blk_frozen HGz42 6
             clear HGz42 hgz42
             have p339 : 0 ≤ (0 : Int) := (by omega)
             have q339 : 0 < (t322.length : Int) := of_decide_eq_true (by first | (with_reducible assumption) | assumption)
             obtain ⟨ad339, e339, hx339_0⟩ := Kd.at_int (Kd.R_reads' HO324.out).2.2 0 p339 q339
             obtain rfl : ad333 = ad339 := (by injection e339)
             have qi339 : (0 < t322.length) = True := eq_true (by omega)
             (try rw [show ((0 : Int)).toNat = 0 from rfl] at hx339_0)
             (try rw [Addr.add_zero'] at hx339_0)
             have hn339_0 : ad333.block ≠ g := Kd.own_blk (IsS41.own_ne HI0.out HO324.out (by decide))
             have hn339_1 : ad333.block ≠ g := Kd.own_blk (IsS41.own_ne HI0.out HO324.out (by decide))
             replace hx339_0 := (cell_far (p := ⟨g, 1, none⟩) (by first | (rw [add_block]; exact hn339_0) | (show (Addr.add _ _).block ≠ _; rw [add_block]; exact hn339_0) | exact hn339_0) (.int .i64 (wrap64 ((ji30) + (rd t322 1))))).trans hx339_0
             replace hx339_0 := (cell_far (p := ⟨g, 4, none⟩) (by first | (rw [add_block]; exact hn339_1) | (show (Addr.add _ _).block ≠ _; rw [add_block]; exact hn339_1) | exact hn339_1) (.int .i64 (wrap64 (t330 + 1)))).trans hx339_0
             clear hn339_0
             clear hn339_1
             replace p339 := eq_true p339
             replace q339 := eq_true q339
             try go_wp2
             go_roundg k2
             case measure => have := HJ5.out; have := HK2.out; omega
             case rel => exact ⟨(y336), (t326), (wrap64 ((ji30) + (rd t322 1))), (t328), (t329), (wrap64 (t330 + 1)), (rd t322 0), (t332), H', ⟨by have := HJ5.out; have := HK2.out; omega⟩, ⟨by (with_reducible repeat (first | apply Kd.R_alloc | apply Kd.R_drewN | apply Kd.R_drew)); exact Kd.R_mono (Kd.R_far (p := ⟨g, 5, none⟩) (Kd.R_far (p := ⟨g, 4, none⟩) (Kd.R_far (p := ⟨g, 1, none⟩) (IsS41.apart HI0.out HO338.out (by decide)) (fun _ hk => hk.2) (.int .i64 (wrap64 ((ji30) + (rd t322 1))))) (fun _ hk => hk.2) (.int .i64 (wrap64 (t330 + 1)))) (fun _ hk => hk.2) (.int .i64 (rd t322 0))) (fun _ hk => trivial)⟩, ⟨by repeat (first | (with_reducible first | exact HI0.out | apply IsS41.alloc | apply IsS41.drewN | apply IsS41.drew | apply IsS41.set_0 | apply IsS41.set_1 | apply IsS41.set_2 | apply IsS41.set_3 | apply IsS41.set_4 | apply IsS41.set_5 | apply IsS41.set_6) | exact HI0.out)⟩, ⟨by repeat (first | (with_reducible first | exact HK.out | apply KeepBut.set_ | apply keep_drewN | apply keep_drew | apply keep_alloc) | exact HK.out)⟩, ⟨kB1 HB.out (IsS41.ge HI0.out)⟩⟩
            rw [if_neg c34] at H
            exact absurd H (by simp)
           rw [if_neg c33] at H
           exact absurd H (by simp)
          rw [if_neg c32] at H
          exact absurd H (by simp)
         rw [if_neg c31] at H
         exact absurd H (by simp)
        rw [if_neg c29] at H
        exact absurd H (by simp)
       rw [if_neg c28] at H
       exact absurd H (by simp)
      rw [if_neg c21] at H
      exact absurd H (by simp)
     rw [if_neg c20] at H
     have c20b0 : (t325 == 0) = false := beq_eq_false_iff_ne.mpr c20
     have c20b1 : (t325 != 0) = true := bne_iff_ne.mpr c20
     simp only [Option.some.injEq, Prod.mk.injEq] at H
     obtain ⟨rfl, rfl, rfl, rfl, rfl, rfl, rfl, rfl, rfl⟩ := H
     try go_wp2
     replace HO_7 := As (Kd.R_drew HO_7.out)
     replace HI0 := As (IsS41.drew HI0.out)
     replace HK := As (keep_drew HK.out)
     replace HB := As (below_drew1 HB.out)
     refine start_ (n := 11) (S := fun w' => w'.cell? ⟨g, 0, none⟩ = some (.string x1000_2) ∧ w'.cell? ⟨g, 1, none⟩ = some (.int .i64 x1001_2) ∧ w'.cell? ⟨g, 2, none⟩ = some (.bool x1002_2) ∧ w'.cell? ⟨g, 3, none⟩ = some (.bool x1003_2) ∧ w'.cell? ⟨g, 4, none⟩ = some (.int .i64 x1004_2) ∧ w'.cell? ⟨g, 5, none⟩ = some (.int .i64 x1005_2) ∧ w'.cell? ⟨g, 6, none⟩ = some (.bool x1006_2)) (ds := []) #[O, O, O, O, O, O, O, O, O, O, O] (by kernel_rfl) rfl rfl ⟨(cellS41_0 (show IsS41 w0 _ g x1000_2 x1001_2 x1002_2 x1003_2 x1004_2 x1005_2 x1006_2 from by repeat (first | (with_reducible first | exact HI0.out | apply IsS41.alloc | apply IsS41.drewN | apply IsS41.drew | apply IsS41.set_0 | apply IsS41.set_1 | apply IsS41.set_2 | apply IsS41.set_3 | apply IsS41.set_4 | apply IsS41.set_5 | apply IsS41.set_6) | exact HI0.out)).1), (cellS41_1 (show IsS41 w0 _ g x1000_2 x1001_2 x1002_2 x1003_2 x1004_2 x1005_2 x1006_2 from by repeat (first | (with_reducible first | exact HI0.out | apply IsS41.alloc | apply IsS41.drewN | apply IsS41.drew | apply IsS41.set_0 | apply IsS41.set_1 | apply IsS41.set_2 | apply IsS41.set_3 | apply IsS41.set_4 | apply IsS41.set_5 | apply IsS41.set_6) | exact HI0.out)).1), (cellS41_2 (show IsS41 w0 _ g x1000_2 x1001_2 x1002_2 x1003_2 x1004_2 x1005_2 x1006_2 from by repeat (first | (with_reducible first | exact HI0.out | apply IsS41.alloc | apply IsS41.drewN | apply IsS41.drew | apply IsS41.set_0 | apply IsS41.set_1 | apply IsS41.set_2 | apply IsS41.set_3 | apply IsS41.set_4 | apply IsS41.set_5 | apply IsS41.set_6) | exact HI0.out)).1), (cellS41_3 (show IsS41 w0 _ g x1000_2 x1001_2 x1002_2 x1003_2 x1004_2 x1005_2 x1006_2 from by repeat (first | (with_reducible first | exact HI0.out | apply IsS41.alloc | apply IsS41.drewN | apply IsS41.drew | apply IsS41.set_0 | apply IsS41.set_1 | apply IsS41.set_2 | apply IsS41.set_3 | apply IsS41.set_4 | apply IsS41.set_5 | apply IsS41.set_6) | exact HI0.out)).1), (cellS41_4 (show IsS41 w0 _ g x1000_2 x1001_2 x1002_2 x1003_2 x1004_2 x1005_2 x1006_2 from by repeat (first | (with_reducible first | exact HI0.out | apply IsS41.alloc | apply IsS41.drewN | apply IsS41.drew | apply IsS41.set_0 | apply IsS41.set_1 | apply IsS41.set_2 | apply IsS41.set_3 | apply IsS41.set_4 | apply IsS41.set_5 | apply IsS41.set_6) | exact HI0.out)).1), (cellS41_5 (show IsS41 w0 _ g x1000_2 x1001_2 x1002_2 x1003_2 x1004_2 x1005_2 x1006_2 from by repeat (first | (with_reducible first | exact HI0.out | apply IsS41.alloc | apply IsS41.drewN | apply IsS41.drew | apply IsS41.set_0 | apply IsS41.set_1 | apply IsS41.set_2 | apply IsS41.set_3 | apply IsS41.set_4 | apply IsS41.set_5 | apply IsS41.set_6) | exact HI0.out)).1), (cellS41_6 (show IsS41 w0 _ g x1000_2 x1001_2 x1002_2 x1003_2 x1004_2 x1005_2 x1006_2 from by repeat (first | (with_reducible first | exact HI0.out | apply IsS41.alloc | apply IsS41.drewN | apply IsS41.drew | apply IsS41.set_0 | apply IsS41.set_1 | apply IsS41.set_2 | apply IsS41.set_3 | apply IsS41.set_4 | apply IsS41.set_5 | apply IsS41.set_6) | exact HI0.out)).1)⟩ (fun hHeld => ?_); refine with_tabW intrusionref09_Reader_Feed.tab12 intrusionref09_Reader_Feed.bits12 (fun HT_ HW_ => ?_)
     generalize wr.drew = w43 at HO_7 HI0 HK HB hHeld ⊢
     refine kP 0 43 #[I, O, O, O, O, O, O, O, O, O, O] ?_ (any_of HT_.out (by kernel_rfl))
     refine kP 1 44 #[I, I, O, O, O, O, O, O, O, O, O] ?_ (any_of HT_.out (by kernel_rfl))
     refine kP 2 45 #[I, I, I, O, O, O, O, O, O, O, O] ?_ (any_of HT_.out (by kernel_rfl))
     refine kP 5 48 #[I, I, I, O, O, I, O, O, O, O, O] ?_ (any_of HT_.out (by kernel_rfl))
     refine kP 6 49 #[I, I, I, O, O, I, I, O, O, O, O] ?_ (any_of HT_.out (by kernel_rfl))
     refine kP 7 50 #[I, I, I, O, O, I, I, I, O, O, O] ?_ (any_of HT_.out (by kernel_rfl))
     refine take_ (i := 3) (N := some 46) (v := ?_) (a' := ?_) #[I, I, I, I, O, I, I, I, O, O, O] rfl rfl (take_ofW HT_.out HW_.out (by kernel_rfl)) (fun _ _ _ h => h) (Or.inl ⟨by rfl, ?_⟩) hHeld ?_ ?_
     rotate_left
     ·rintro w' ⟨s0, s1, s2, s3, s4, s5, s6⟩
      go_simp
      with_reducible rfl
     rotate_left
     ·simp only [Act.put, sA, sZ, sS, i64_w, i32_w]
      rfl
     refine kP 4 47 #[I, I, I, I, I, I, I, I, O, O, O] ?_ (any_of HT_.out (by kernel_rfl))
     refine take_ (i := 8) (N := some 51) (v := ?_) (a' := ?_) #[I, I, I, I, I, I, I, I, I, O, O] rfl rfl (take_ofW HT_.out HW_.out (by kernel_rfl)) (fun _ _ _ h => h) (Or.inl ⟨by rfl, ?_⟩) hHeld ?_ ?_
     rotate_left
     ·rintro w' ⟨s0, s1, s2, s3, s4, s5, s6⟩
      go_simp
      with_reducible rfl
     rotate_left
     ·simp only [Act.put, sA, sZ, sS, i64_w, i32_w]
      rfl
     refine kP 9 52 #[I, I, I, I, I, I, I, I, I, I, O] ?_ (any_of HT_.out (by kernel_rfl))
     refine kP 10 53 #[I, I, I, I, I, I, I, I, I, I, I] ?_ (any_of HT_.out (by kernel_rfl))
     refine done_ (done_of HT_.out (by kernel_rfl)) ?_
     try go_wp2_with (first | ((with_reducible refine gate_callee (f := 32) rfl ?_); refine goesL_ (some 56) rfl rfl Try.func32 (by kernel_rfl) rfl #[.pointer (some ⟨g, 0, none⟩)] rfl kA ?_; (with_reducible refine (intrusionref09_Reader_check.calls k2 g x1000_2 x1001_2 x1002_2 x1003_2 x1004_2 x1005_2 x1006_2 t322 t325 t326 t327 t328 t329 t330 t331 t332 w0 _ ?side1 ?side2 A19.out).mono ?_); (case side1 => repeat (first | (with_reducible first | exact HI0.out | apply IsS41.alloc | apply IsS41.drewN | apply IsS41.drew | apply IsS41.set_0 | apply IsS41.set_1 | apply IsS41.set_2 | apply IsS41.set_3 | apply IsS41.set_4 | apply IsS41.set_5 | apply IsS41.set_6) | exact HI0.out)); (case side2 => exact kB1 HB.out (IsS41.ge HI0.out)); rintro e w44 ⟨v323, rfl, ho0, hi, hb, hk⟩; refine ⟨_, rfl, ?_⟩; replace HO_7 := As (Kd.R_mono (Kd.R_keep (IsS41.apart (show IsS41 w0 _ g x1000_2 x1001_2 x1002_2 x1003_2 x1004_2 x1005_2 x1006_2 from by repeat (first | (with_reducible first | exact HI0.out | apply IsS41.alloc | apply IsS41.drewN | apply IsS41.drew | apply IsS41.set_0 | apply IsS41.set_1 | apply IsS41.set_2 | apply IsS41.set_3 | apply IsS41.set_4 | apply IsS41.set_5 | apply IsS41.set_6) | exact HI0.out)) (kR HO_7.out) (by decide)) hk (fun _ h => h.2)) (fun _ h => h.1)); have HO324 := As (Kd.R_lower ho0 (keep_size (w := w) (g := g) (row := none) (by repeat (first | (with_reducible first | exact HK.out | apply KeepBut.set_ | apply keep_drewN | apply keep_drew | apply keep_alloc) | exact HK.out)))); replace HK := As (KeepBut.trans (by repeat (first | (with_reducible first | exact HK.out | apply KeepBut.set_ | apply keep_drewN | apply keep_drew | apply keep_alloc) | exact HK.out)) hk (.inl rfl)); replace HB := As (hb); replace HI0 := As (hi); (try clear hb); (try clear hk); (try clear hi); (try clear ho0); obtain ⟨HGz45, hgz45⟩ := HI0.out; have hcz45_0 := cellS41_0 HGz45; have hcz45_1 := cellS41_1 HGz45; have hcz45_2 := cellS41_2 HGz45; have hcz45_3 := cellS41_3 HGz45; have hcz45_4 := cellS41_4 HGz45; have hcz45_5 := cellS41_5 HGz45; have hcz45_6 := cellS41_6 HGz45; have hfz45_0 := blk_frozen HGz45 0; have hfz45_1 := blk_frozen HGz45 1; have hfz45_2 := blk_frozen HGz45 2; have hfz45_3 := blk_frozen HGz45 3; have hfz45_4 := blk_frozen HGz45 4; have hfz45_5 := blk_frozen HGz45 5; have hfz45_6 := blk_frozen HGz45 6; clear HGz45 hgz45))
     go_ret2
     exact ⟨_, kE, by (with_reducible repeat (first | apply Kd.R_alloc | apply Kd.R_drewN | apply Kd.R_drew)); exact Kd.R_mono (Kd.R_far (p := ⟨g, 6, none⟩) (IsS41.apart HI0.out HO_7.out (by decide)) (fun _ hk => hk.2) (.bool true)) (fun _ hk => trivial), by repeat (first | (with_reducible first | exact HI0.out | apply IsS41.alloc | apply IsS41.drewN | apply IsS41.drew | apply IsS41.set_0 | apply IsS41.set_1 | apply IsS41.set_2 | apply IsS41.set_3 | apply IsS41.set_4 | apply IsS41.set_5 | apply IsS41.set_6) | exact HI0.out), by exact kB1 HB.out (IsS41.ge HI0.out), by repeat (first | (with_reducible first | exact HK.out | apply KeepBut.set_ | apply keep_drewN | apply keep_drew | apply keep_alloc) | exact HK.out)⟩
    rw [if_neg c18] at H
    have c18b0 : decide (16 ≤ (wrap64 ((x1000_2.size : Int) - x1001_2))) = false := decide_eq_false c18
    clear c18
    simp only [Option.some.injEq, Prod.mk.injEq] at H
    obtain ⟨rfl, rfl, rfl, rfl, rfl, rfl, rfl, rfl, rfl⟩ := H
    try go_wp2
    replace HO_7 := As (Kd.R_drew HO_7.out)
    replace HI0 := As (IsS41.drew HI0.out)
    replace HK := As (keep_drew HK.out)
    replace HB := As (below_drew1 HB.out)
    refine start_ (n := 11) (S := fun w' => w'.cell? ⟨g, 0, none⟩ = some (.string x1000_2) ∧ w'.cell? ⟨g, 1, none⟩ = some (.int .i64 x1001_2) ∧ w'.cell? ⟨g, 2, none⟩ = some (.bool x1002_2) ∧ w'.cell? ⟨g, 3, none⟩ = some (.bool x1003_2) ∧ w'.cell? ⟨g, 4, none⟩ = some (.int .i64 x1004_2) ∧ w'.cell? ⟨g, 5, none⟩ = some (.int .i64 x1005_2) ∧ w'.cell? ⟨g, 6, none⟩ = some (.bool x1006_2)) (ds := []) #[O, O, O, O, O, O, O, O, O, O, O] (by kernel_rfl) rfl rfl ⟨(cellS41_0 (show IsS41 w0 _ g x1000_2 x1001_2 x1002_2 x1003_2 x1004_2 x1005_2 x1006_2 from by repeat (first | (with_reducible first | exact HI0.out | apply IsS41.alloc | apply IsS41.drewN | apply IsS41.drew | apply IsS41.set_0 | apply IsS41.set_1 | apply IsS41.set_2 | apply IsS41.set_3 | apply IsS41.set_4 | apply IsS41.set_5 | apply IsS41.set_6) | exact HI0.out)).1), (cellS41_1 (show IsS41 w0 _ g x1000_2 x1001_2 x1002_2 x1003_2 x1004_2 x1005_2 x1006_2 from by repeat (first | (with_reducible first | exact HI0.out | apply IsS41.alloc | apply IsS41.drewN | apply IsS41.drew | apply IsS41.set_0 | apply IsS41.set_1 | apply IsS41.set_2 | apply IsS41.set_3 | apply IsS41.set_4 | apply IsS41.set_5 | apply IsS41.set_6) | exact HI0.out)).1), (cellS41_2 (show IsS41 w0 _ g x1000_2 x1001_2 x1002_2 x1003_2 x1004_2 x1005_2 x1006_2 from by repeat (first | (with_reducible first | exact HI0.out | apply IsS41.alloc | apply IsS41.drewN | apply IsS41.drew | apply IsS41.set_0 | apply IsS41.set_1 | apply IsS41.set_2 | apply IsS41.set_3 | apply IsS41.set_4 | apply IsS41.set_5 | apply IsS41.set_6) | exact HI0.out)).1), (cellS41_3 (show IsS41 w0 _ g x1000_2 x1001_2 x1002_2 x1003_2 x1004_2 x1005_2 x1006_2 from by repeat (first | (with_reducible first | exact HI0.out | apply IsS41.alloc | apply IsS41.drewN | apply IsS41.drew | apply IsS41.set_0 | apply IsS41.set_1 | apply IsS41.set_2 | apply IsS41.set_3 | apply IsS41.set_4 | apply IsS41.set_5 | apply IsS41.set_6) | exact HI0.out)).1), (cellS41_4 (show IsS41 w0 _ g x1000_2 x1001_2 x1002_2 x1003_2 x1004_2 x1005_2 x1006_2 from by repeat (first | (with_reducible first | exact HI0.out | apply IsS41.alloc | apply IsS41.drewN | apply IsS41.drew | apply IsS41.set_0 | apply IsS41.set_1 | apply IsS41.set_2 | apply IsS41.set_3 | apply IsS41.set_4 | apply IsS41.set_5 | apply IsS41.set_6) | exact HI0.out)).1), (cellS41_5 (show IsS41 w0 _ g x1000_2 x1001_2 x1002_2 x1003_2 x1004_2 x1005_2 x1006_2 from by repeat (first | (with_reducible first | exact HI0.out | apply IsS41.alloc | apply IsS41.drewN | apply IsS41.drew | apply IsS41.set_0 | apply IsS41.set_1 | apply IsS41.set_2 | apply IsS41.set_3 | apply IsS41.set_4 | apply IsS41.set_5 | apply IsS41.set_6) | exact HI0.out)).1), (cellS41_6 (show IsS41 w0 _ g x1000_2 x1001_2 x1002_2 x1003_2 x1004_2 x1005_2 x1006_2 from by repeat (first | (with_reducible first | exact HI0.out | apply IsS41.alloc | apply IsS41.drewN | apply IsS41.drew | apply IsS41.set_0 | apply IsS41.set_1 | apply IsS41.set_2 | apply IsS41.set_3 | apply IsS41.set_4 | apply IsS41.set_5 | apply IsS41.set_6) | exact HI0.out)).1)⟩ (fun hHeld => ?_); refine with_tabW intrusionref09_Reader_Feed.tab12 intrusionref09_Reader_Feed.bits12 (fun HT_ HW_ => ?_)
    generalize wr.drew = w46 at HO_7 HI0 HK HB hHeld ⊢
    refine kP 0 43 #[I, O, O, O, O, O, O, O, O, O, O] ?_ (any_of HT_.out (by kernel_rfl))
    refine kP 1 44 #[I, I, O, O, O, O, O, O, O, O, O] ?_ (any_of HT_.out (by kernel_rfl))
    refine kP 2 45 #[I, I, I, O, O, O, O, O, O, O, O] ?_ (any_of HT_.out (by kernel_rfl))
    refine kP 5 48 #[I, I, I, O, O, I, O, O, O, O, O] ?_ (any_of HT_.out (by kernel_rfl))
    refine kP 6 49 #[I, I, I, O, O, I, I, O, O, O, O] ?_ (any_of HT_.out (by kernel_rfl))
    refine kP 7 50 #[I, I, I, O, O, I, I, I, O, O, O] ?_ (any_of HT_.out (by kernel_rfl))
    refine take_ (i := 3) (N := some 46) (v := ?_) (a' := ?_) #[I, I, I, I, O, I, I, I, O, O, O] rfl rfl (take_ofW HT_.out HW_.out (by kernel_rfl)) (fun _ _ _ h => h) (Or.inl ⟨by rfl, ?_⟩) hHeld ?_ ?_
    rotate_left
    ·rintro w' ⟨s0, s1, s2, s3, s4, s5, s6⟩
     go_simp
     with_reducible rfl
    rotate_left
    ·simp only [Act.put, sA, sZ, sS, i64_w, i32_w]
     rfl
    refine kP 4 47 #[I, I, I, I, I, I, I, I, O, O, O] ?_ (any_of HT_.out (by kernel_rfl))
    refine take_ (i := 8) (N := some 51) (v := ?_) (a' := ?_) #[I, I, I, I, I, I, I, I, I, O, O] rfl rfl (take_ofW HT_.out HW_.out (by kernel_rfl)) (fun _ _ _ h => h) (Or.inl ⟨by rfl, ?_⟩) hHeld ?_ ?_
    rotate_left
    ·rintro w' ⟨s0, s1, s2, s3, s4, s5, s6⟩
     go_simp
     with_reducible rfl
    rotate_left
    ·simp only [Act.put, sA, sZ, sS, i64_w, i32_w]
     rfl
    refine kP 9 52 #[I, I, I, I, I, I, I, I, I, I, O] ?_ (any_of HT_.out (by kernel_rfl))
    refine kP 10 53 #[I, I, I, I, I, I, I, I, I, I, I] ?_ (any_of HT_.out (by kernel_rfl))
    refine done_ (done_of HT_.out (by kernel_rfl)) ?_
    try go_wp2
    go_ret2
    exact ⟨_, kE, by (with_reducible repeat (first | apply Kd.R_alloc | apply Kd.R_drewN | apply Kd.R_drew)); exact HO_7.out, by repeat (first | (with_reducible first | exact HI0.out | apply IsS41.alloc | apply IsS41.drewN | apply IsS41.drew | apply IsS41.set_0 | apply IsS41.set_1 | apply IsS41.set_2 | apply IsS41.set_3 | apply IsS41.set_4 | apply IsS41.set_5 | apply IsS41.set_6) | exact HI0.out), by exact kB1 HB.out (IsS41.ge HI0.out), by repeat (first | (with_reducible first | exact HK.out | apply KeepBut.set_ | apply keep_drewN | apply keep_drew | apply keep_alloc) | exact HK.out)⟩
 rw [if_neg c5] at H
 exact absurd H (by simp)

end Go.Proofs.Ytafjmciojeondaa.X
-- short
