/- Functions and their walks, printed by xprint.py. -/
import Derived.Test.YtafjmciojeondaaX0
import Derived.Test.YtafjmciojeondaaX10
import Derived.Test.YtafjmciojeondaaX11
namespace Go.Proofs.Ytafjmciojeondaa.X
open Go.RowKit Go.Proofs.YtafjmciojeondaaW.PrintWords Go.Proofs.YtafjmciojeondaaW.PrintLast Go.Proofs.YtafjmciojeondaaW.PrintMore
attribute [local go_sem] max2_int min2_int max_two min_two max_three min_three max_four min_four   -- for this text's walks alone
set_option linter.unusedVariables false
set_option linter.unusedSimpArgs false

/-! ### intrusionref09_Reader_check: function 32 -/
def intrusionref09_Reader_check.j0 : Nat → Int → Int → Int → Bool → ByteArray → Int → Bool → Bool → Int → Int → Bool → Option (List Int × Int × ByteArray × Int × Bool × Bool × Int × Int × Bool)
 | 0, _, _, _, _, _, _, _, _, _, _, _ => none
 | k + 1, x6, x7, x8, x72, x1000, x1001, x1002, x1003, x1004, x1005, x1006 => if x72 = true then (some (([] : List Int), 3, x1000, x1001, x1002, x1003, x1004, x1005, x1006)) else (if x1004 > 0 then (if x8 < x1005 then (some (([] : List Int), 12, x1000, x1001, x1002, x1003, x1004, x1005, x1006)) else (some ((([x8, x6, x7] : List Int)), 0, x1000, x1001, x1002, x1003, x1004, x1005, x1006))) else (some ((([x8, x6, x7] : List Int)), 0, x1000, x1001, x1002, x1003, x1004, x1005, x1006)))
def intrusionref09_Reader_check.f (k : Nat) (s0_0 : ByteArray) (s0_1 : Int) (s0_2 : Bool) (s0_3 : Bool) (s0_4 : Int) (s0_5 : Int) (s0_6 : Bool) : Option (List Int × Int × ByteArray × Int × Bool × Bool × Int × Int × Bool) := (intrusionref09_number.f k s0_0 s0_1 4 s0_3).bind fun t304 => ((intrusionref09_number.f k s0_0 (wrap64 (s0_1 + 4)) 4 s0_3).bind fun t305 => ((intrusionref09_number.f k s0_0 (wrap64 (s0_1 + 8)) 4 s0_3).bind fun t306 => ((intrusionref09_number.f k s0_0 (wrap64 (s0_1 + 12)) 4 s0_3).bind fun t307 => (if t305 > 999999 then (some (([] : List Int), 2, s0_0, s0_1, s0_2, s0_3, s0_4, s0_5, s0_6)) else (if s0_4 = 2000 then (intrusionref09_Reader_check.j0 k t306 t307 (wrap64 ((wrap64 (t304 * 1000)) + (wrap64 (Int.tdiv t305 1000)))) true s0_0 s0_1 s0_2 s0_3 s0_4 s0_5 s0_6) else (if t306 > 4096 then (intrusionref09_Reader_check.j0 k t306 t307 (wrap64 ((wrap64 (t304 * 1000)) + (wrap64 (Int.tdiv t305 1000)))) true s0_0 s0_1 s0_2 s0_3 s0_4 s0_5 s0_6) else (intrusionref09_Reader_check.j0 k t306 t307 (wrap64 ((wrap64 (t304 * 1000)) + (wrap64 (Int.tdiv t305 1000)))) (decide (t306 > t307)) s0_0 s0_1 s0_2 s0_3 s0_4 s0_5 s0_6)))))))
theorem intrusionref09_Reader_check.mono_l : ∀ k, (∀ y0 y1 y2 y3 y4 y5 y6 y7 y8 y9 y10, LeO (intrusionref09_Reader_check.j0 k y0 y1 y2 y3 y4 y5 y6 y7 y8 y9 y10) (intrusionref09_Reader_check.j0 (k + 1) y0 y1 y2 y3 y4 y5 y6 y7 y8 y9 y10))
 | 0 => fun _ _ _ _ _ _ _ _ _ _ _ r h => by simp [intrusionref09_Reader_check.j0] at h
 | k + 1 => by
  have ih0 := intrusionref09_Reader_check.mono_l k
  intro y0 y1 y2 y3 y4 y5 y6 y7 y8 y9 y10
  unfold intrusionref09_Reader_check.j0
  repeat' first | with_reducible first | apply ih0 | apply intrusionref09_number.mono | apply LeO.refl | apply LeO.none | refine LeO.ite ?_ ?_ | refine LeO.bind ?_ (fun _ => ?_)
theorem intrusionref09_Reader_check.mono : ∀ a0 a1 a2 a3 a4 a5 a6 k, LeO (intrusionref09_Reader_check.f k a0 a1 a2 a3 a4 a5 a6) (intrusionref09_Reader_check.f (k + 1) a0 a1 a2 a3 a4 a5 a6) := by
 intro a0 a1 a2 a3 a4 a5 a6 k
 have ih0 := intrusionref09_Reader_check.mono_l k
 unfold intrusionref09_Reader_check.f
 repeat' first | with_reducible first | apply ih0 | apply intrusionref09_number.mono | apply LeO.refl | apply LeO.none | refine LeO.ite ?_ ?_ | refine LeO.bind ?_ (fun _ => ?_)
def intrusionref09_Reader_check.T1 : Bool × List (List Nat × List Nat) := (true, [([], []), ([0], [0]), ([1], [1]), ([2], [2]), ([], []), ([4], [4]), ([5], [5]), ([6], [6]), ([], []), ([8], [8]), ([9], [9]), ([10], [10]), ([3, 7, 11], [3, 7, 11]), ([], []), ([13], [13]), ([14], [14]), ([15], [15]), ([], []), ([17], [17]), ([18], [18]), ([19], [19]), ([20], [20]), ([], []), ([22], [22]), ([23], [23]), ([24], [24]), ([16, 21, 25, 12], [16, 21, 25]), ([12, 26, 0, 1, 2, 3, 4, 5, 6, 7, 8, 9, 10, 11, 12], [12]), ([26, 27, 0, 1, 2, 3, 4, 5, 6, 7, 8, 9, 10, 11, 12, 13, 14, 15, 16, 17, 18, 19, 20, 21, 22, 23, 24, 25, 26, 27], [26])])
def intrusionref09_Reader_check.B1 : List Nat := [0, 1, 3, 7, 0, 16, 48, 112, 0, 256, 768, 1792, 4095, 0, 8192, 24576, 57344, 0, 131072, 393216, 917504, 1966080, 0, 4194304, 12582912, 29360128, 67108863, 134217727, 268435455]
theorem intrusionref09_Reader_check.tab1 : rtab .any (opsOf Try.f32 1) = intrusionref09_Reader_check.T1 := by kernel_rfl
theorem intrusionref09_Reader_check.bits1 : waitsOk intrusionref09_Reader_check.T1.2 intrusionref09_Reader_check.B1 = true := by kernel_rfl
def intrusionref09_Reader_check.T2 : Bool × List (List Nat × List Nat) := (true, [([], []), ([0], [0]), ([1], [1]), ([2], [2]), ([], []), ([4], [4]), ([5], [5]), ([6], [6]), ([7], [7]), ([], []), ([9], [9]), ([10], [10]), ([11], [11]), ([3, 8, 12], [3, 8, 12]), ([], []), ([14], [14]), ([15], [15]), ([16], [16]), ([], []), ([18], [18]), ([19], [19]), ([20], [20]), ([21], [21]), ([], []), ([23], [23]), ([24], [24]), ([25], [25]), ([17, 22, 26, 13], [17, 22, 26]), ([13, 27, 0, 1, 2, 3, 4, 5, 6, 7, 8, 9, 10, 11, 12, 13], [13]), ([27, 28, 0, 1, 2, 3, 4, 5, 6, 7, 8, 9, 10, 11, 12, 13, 14, 15, 16, 17, 18, 19, 20, 21, 22, 23, 24, 25, 26, 27, 28], [27])])
def intrusionref09_Reader_check.B2 : List Nat := [0, 1, 3, 7, 0, 16, 48, 112, 240, 0, 512, 1536, 3584, 8191, 0, 16384, 49152, 114688, 0, 262144, 786432, 1835008, 3932160, 0, 8388608, 25165824, 58720256, 134217727, 268435455, 536870911]
theorem intrusionref09_Reader_check.tab2 : rtab .any (opsOf Try.f32 2) = intrusionref09_Reader_check.T2 := by kernel_rfl
theorem intrusionref09_Reader_check.bits2 : waitsOk intrusionref09_Reader_check.T2.2 intrusionref09_Reader_check.B2 = true := by kernel_rfl
set_option maxHeartbeats 8000000 in
set_option maxRecDepth 100000 in
theorem intrusionref09_Reader_check.calls (k : Nat) (g : Nat) (s0_0 : ByteArray) (s0_1 : Int) (s0_2 : Bool) (s0_3 : Bool) (s0_4 : Int) (s0_5 : Int) (s0_6 : Bool) (r1 : List Int) (r2 : Int) (r3 : ByteArray) (r4 : Int) (r5 : Bool) (r6 : Bool) (r7 : Int) (r8 : Int) (r9 : Bool) (w0 w : World) (hI : IsS41 w0 w g s0_0 s0_1 s0_2 s0_3 s0_4 s0_5 s0_6) (hB : Below w0.heap.size w0 w) (h : intrusionref09_Reader_check.f k s0_0 s0_1 s0_2 s0_3 s0_4 s0_5 s0_6 = some (r1, r2, r3, r4, r5, r6, r7, r8, r9)) :
  Calls Try.prog 32 #[.pointer (some ⟨g, 0, none⟩)] w fun e w' => ∃ v0_ : Value, e = .returned (.tuple #[v0_, .int .i64 r2]) ∧ Kd.R (Kd.int .i64) 3 w' w.heap.size (fun _ => True) v0_ r1 ∧ IsS41 w0 w' g r3 r4 r5 r6 r7 r8 r9 ∧ Below w0.heap.size w0 w' ∧ KeepBut w w' g none := by
 have HI0 := As hI
 have HK := As (KeepBut.refl w g none)
 have HL := As hB.size
 clear hI
 have HW0 := As hB.size
 have HB := As hB
 clear hB
 have H : ((intrusionref09_number.f k s0_0 s0_1 4 s0_3).bind fun t304 => ((intrusionref09_number.f k s0_0 (wrap64 (s0_1 + 4)) 4 s0_3).bind fun t305 => ((intrusionref09_number.f k s0_0 (wrap64 (s0_1 + 8)) 4 s0_3).bind fun t306 => ((intrusionref09_number.f k s0_0 (wrap64 (s0_1 + 12)) 4 s0_3).bind fun t307 => (if t305 > 999999 then (some (([] : List Int), 2, s0_0, s0_1, s0_2, s0_3, s0_4, s0_5, s0_6)) else (if s0_4 = 2000 then (intrusionref09_Reader_check.j0 k t306 t307 (wrap64 ((wrap64 (t304 * 1000)) + (wrap64 (Int.tdiv t305 1000)))) true s0_0 s0_1 s0_2 s0_3 s0_4 s0_5 s0_6) else (if t306 > 4096 then (intrusionref09_Reader_check.j0 k t306 t307 (wrap64 ((wrap64 (t304 * 1000)) + (wrap64 (Int.tdiv t305 1000)))) true s0_0 s0_1 s0_2 s0_3 s0_4 s0_5 s0_6) else (intrusionref09_Reader_check.j0 k t306 t307 (wrap64 ((wrap64 (t304 * 1000)) + (wrap64 (Int.tdiv t305 1000)))) (decide (t306 > t307)) s0_0 s0_1 s0_2 s0_3 s0_4 s0_5 s0_6)))))))) = some (r1, r2, r3, r4, r5, r6, r7, r8, r9) := h
 clear h
 replace H := Option.bind_eq_some_iff.mp H
 obtain ⟨t304, A20, H⟩ := H
 replace H : ((intrusionref09_number.f k s0_0 (wrap64 (s0_1 + 4)) 4 s0_3).bind fun t305 => ((intrusionref09_number.f k s0_0 (wrap64 (s0_1 + 8)) 4 s0_3).bind fun t306 => ((intrusionref09_number.f k s0_0 (wrap64 (s0_1 + 12)) 4 s0_3).bind fun t307 => (if t305 > 999999 then (some (([] : List Int), 2, s0_0, s0_1, s0_2, s0_3, s0_4, s0_5, s0_6)) else (if s0_4 = 2000 then (intrusionref09_Reader_check.j0 k t306 t307 (wrap64 ((wrap64 (t304 * 1000)) + (wrap64 (Int.tdiv t305 1000)))) true s0_0 s0_1 s0_2 s0_3 s0_4 s0_5 s0_6) else (if t306 > 4096 then (intrusionref09_Reader_check.j0 k t306 t307 (wrap64 ((wrap64 (t304 * 1000)) + (wrap64 (Int.tdiv t305 1000)))) true s0_0 s0_1 s0_2 s0_3 s0_4 s0_5 s0_6) else (intrusionref09_Reader_check.j0 k t306 t307 (wrap64 ((wrap64 (t304 * 1000)) + (wrap64 (Int.tdiv t305 1000)))) (decide (t306 > t307)) s0_0 s0_1 s0_2 s0_3 s0_4 s0_5 s0_6))))))) = some (r1, r2, r3, r4, r5, r6, r7, r8, r9) := H
 have A2 := As A20
 clear A20
 replace H := Option.bind_eq_some_iff.mp H
 obtain ⟨t305, A30, H⟩ := H
 replace H : ((intrusionref09_number.f k s0_0 (wrap64 (s0_1 + 8)) 4 s0_3).bind fun t306 => ((intrusionref09_number.f k s0_0 (wrap64 (s0_1 + 12)) 4 s0_3).bind fun t307 => (if t305 > 999999 then (some (([] : List Int), 2, s0_0, s0_1, s0_2, s0_3, s0_4, s0_5, s0_6)) else (if s0_4 = 2000 then (intrusionref09_Reader_check.j0 k t306 t307 (wrap64 ((wrap64 (t304 * 1000)) + (wrap64 (Int.tdiv t305 1000)))) true s0_0 s0_1 s0_2 s0_3 s0_4 s0_5 s0_6) else (if t306 > 4096 then (intrusionref09_Reader_check.j0 k t306 t307 (wrap64 ((wrap64 (t304 * 1000)) + (wrap64 (Int.tdiv t305 1000)))) true s0_0 s0_1 s0_2 s0_3 s0_4 s0_5 s0_6) else (intrusionref09_Reader_check.j0 k t306 t307 (wrap64 ((wrap64 (t304 * 1000)) + (wrap64 (Int.tdiv t305 1000)))) (decide (t306 > t307)) s0_0 s0_1 s0_2 s0_3 s0_4 s0_5 s0_6)))))) = some (r1, r2, r3, r4, r5, r6, r7, r8, r9) := H
 have A3 := As A30
 clear A30
 replace H := Option.bind_eq_some_iff.mp H
 obtain ⟨t306, A40, H⟩ := H
 replace H : ((intrusionref09_number.f k s0_0 (wrap64 (s0_1 + 12)) 4 s0_3).bind fun t307 => (if t305 > 999999 then (some (([] : List Int), 2, s0_0, s0_1, s0_2, s0_3, s0_4, s0_5, s0_6)) else (if s0_4 = 2000 then (intrusionref09_Reader_check.j0 k t306 t307 (wrap64 ((wrap64 (t304 * 1000)) + (wrap64 (Int.tdiv t305 1000)))) true s0_0 s0_1 s0_2 s0_3 s0_4 s0_5 s0_6) else (if t306 > 4096 then (intrusionref09_Reader_check.j0 k t306 t307 (wrap64 ((wrap64 (t304 * 1000)) + (wrap64 (Int.tdiv t305 1000)))) true s0_0 s0_1 s0_2 s0_3 s0_4 s0_5 s0_6) else (intrusionref09_Reader_check.j0 k t306 t307 (wrap64 ((wrap64 (t304 * 1000)) + (wrap64 (Int.tdiv t305 1000)))) (decide (t306 > t307)) s0_0 s0_1 s0_2 s0_3 s0_4 s0_5 s0_6))))) = some (r1, r2, r3, r4, r5, r6, r7, r8, r9) := H
 have A4 := As A40
 clear A40
 replace H := Option.bind_eq_some_iff.mp H
 obtain ⟨t307, A50, H⟩ := H
 replace H : (if t305 > 999999 then (some (([] : List Int), 2, s0_0, s0_1, s0_2, s0_3, s0_4, s0_5, s0_6)) else (if s0_4 = 2000 then (intrusionref09_Reader_check.j0 k t306 t307 (wrap64 ((wrap64 (t304 * 1000)) + (wrap64 (Int.tdiv t305 1000)))) true s0_0 s0_1 s0_2 s0_3 s0_4 s0_5 s0_6) else (if t306 > 4096 then (intrusionref09_Reader_check.j0 k t306 t307 (wrap64 ((wrap64 (t304 * 1000)) + (wrap64 (Int.tdiv t305 1000)))) true s0_0 s0_1 s0_2 s0_3 s0_4 s0_5 s0_6) else (intrusionref09_Reader_check.j0 k t306 t307 (wrap64 ((wrap64 (t304 * 1000)) + (wrap64 (Int.tdiv t305 1000)))) (decide (t306 > t307)) s0_0 s0_1 s0_2 s0_3 s0_4 s0_5 s0_6)))) = some (r1, r2, r3, r4, r5, r6, r7, r8, r9) := H
 have A5 := As A50
 clear A50
 by_cases c6 : t305 > 999999
 ·rw [if_pos c6] at H
  have c6b0 : decide (999999 < t305) = true := decide_eq_true c6
  clear c6
  simp only [Option.some.injEq, Prod.mk.injEq] at H
  obtain ⟨rfl, rfl, rfl, rfl, rfl, rfl, rfl, rfl, rfl⟩ := H
  go_enter Try.func32, Try.ntmps32
  try go_wp2
  replace HI0 := As (IsS41.drew HI0.out)
  replace HK := As (keep_drew HK.out)
  replace HB := As (below_drew1 HB.out)
  refine start_ (n := 29) (S := fun w' => w'.cell? ⟨g, 0, none⟩ = some (.string s0_0) ∧ w'.cell? ⟨g, 1, none⟩ = some (.int .i64 s0_1) ∧ w'.cell? ⟨g, 2, none⟩ = some (.bool s0_2) ∧ w'.cell? ⟨g, 3, none⟩ = some (.bool s0_3) ∧ w'.cell? ⟨g, 4, none⟩ = some (.int .i64 s0_4) ∧ w'.cell? ⟨g, 5, none⟩ = some (.int .i64 s0_5) ∧ w'.cell? ⟨g, 6, none⟩ = some (.bool s0_6)) (ds := []) #[O, O, O, O, O, O, O, O, O, O, O, O, O, O, O, O, O, O, O, O, O, O, O, O, O, O, O, O, O] (by kernel_rfl) rfl rfl ⟨(cellS41_0 (show IsS41 w0 _ g s0_0 s0_1 s0_2 s0_3 s0_4 s0_5 s0_6 from by repeat (first | (with_reducible first | exact HI0.out | apply IsS41.alloc | apply IsS41.drewN | apply IsS41.drew | apply IsS41.set_0 | apply IsS41.set_1 | apply IsS41.set_2 | apply IsS41.set_3 | apply IsS41.set_4 | apply IsS41.set_5 | apply IsS41.set_6) | exact HI0.out)).1), (cellS41_1 (show IsS41 w0 _ g s0_0 s0_1 s0_2 s0_3 s0_4 s0_5 s0_6 from by repeat (first | (with_reducible first | exact HI0.out | apply IsS41.alloc | apply IsS41.drewN | apply IsS41.drew | apply IsS41.set_0 | apply IsS41.set_1 | apply IsS41.set_2 | apply IsS41.set_3 | apply IsS41.set_4 | apply IsS41.set_5 | apply IsS41.set_6) | exact HI0.out)).1), (cellS41_2 (show IsS41 w0 _ g s0_0 s0_1 s0_2 s0_3 s0_4 s0_5 s0_6 from by repeat (first | (with_reducible first | exact HI0.out | apply IsS41.alloc | apply IsS41.drewN | apply IsS41.drew | apply IsS41.set_0 | apply IsS41.set_1 | apply IsS41.set_2 | apply IsS41.set_3 | apply IsS41.set_4 | apply IsS41.set_5 | apply IsS41.set_6) | exact HI0.out)).1), (cellS41_3 (show IsS41 w0 _ g s0_0 s0_1 s0_2 s0_3 s0_4 s0_5 s0_6 from by repeat (first | (with_reducible first | exact HI0.out | apply IsS41.alloc | apply IsS41.drewN | apply IsS41.drew | apply IsS41.set_0 | apply IsS41.set_1 | apply IsS41.set_2 | apply IsS41.set_3 | apply IsS41.set_4 | apply IsS41.set_5 | apply IsS41.set_6) | exact HI0.out)).1), (cellS41_4 (show IsS41 w0 _ g s0_0 s0_1 s0_2 s0_3 s0_4 s0_5 s0_6 from by repeat (first | (with_reducible first | exact HI0.out | apply IsS41.alloc | apply IsS41.drewN | apply IsS41.drew | apply IsS41.set_0 | apply IsS41.set_1 | apply IsS41.set_2 | apply IsS41.set_3 | apply IsS41.set_4 | apply IsS41.set_5 | apply IsS41.set_6) | exact HI0.out)).1), (cellS41_5 (show IsS41 w0 _ g s0_0 s0_1 s0_2 s0_3 s0_4 s0_5 s0_6 from by repeat (first | (with_reducible first | exact HI0.out | apply IsS41.alloc | apply IsS41.drewN | apply IsS41.drew | apply IsS41.set_0 | apply IsS41.set_1 | apply IsS41.set_2 | apply IsS41.set_3 | apply IsS41.set_4 | apply IsS41.set_5 | apply IsS41.set_6) | exact HI0.out)).1), (cellS41_6 (show IsS41 w0 _ g s0_0 s0_1 s0_2 s0_3 s0_4 s0_5 s0_6 from by repeat (first | (with_reducible first | exact HI0.out | apply IsS41.alloc | apply IsS41.drewN | apply IsS41.drew | apply IsS41.set_0 | apply IsS41.set_1 | apply IsS41.set_2 | apply IsS41.set_3 | apply IsS41.set_4 | apply IsS41.set_5 | apply IsS41.set_6) | exact HI0.out)).1)⟩ (fun hHeld => ?_); refine with_tabW intrusionref09_Reader_check.tab1 intrusionref09_Reader_check.bits1 (fun HT_ HW_ => ?_)
  generalize w.drew = w7 at HI0 HK HB hHeld ⊢
  refine kP 0 9 #[I, O, O, O, O, O, O, O, O, O, O, O, O, O, O, O, O, O, O, O, O, O, O, O, O, O, O, O, O] ?_ (any_of HT_.out (by kernel_rfl))
  refine kP 1 10 #[I, I, O, O, O, O, O, O, O, O, O, O, O, O, O, O, O, O, O, O, O, O, O, O, O, O, O, O, O] ?_ (any_of HT_.out (by kernel_rfl))
  refine kP 2 11 #[I, I, I, O, O, O, O, O, O, O, O, O, O, O, O, O, O, O, O, O, O, O, O, O, O, O, O, O, O] ?_ (any_of HT_.out (by kernel_rfl))
  refine kP 4 13 #[I, I, I, O, I, O, O, O, O, O, O, O, O, O, O, O, O, O, O, O, O, O, O, O, O, O, O, O, O] ?_ (any_of HT_.out (by kernel_rfl))
  refine kP 5 14 #[I, I, I, O, I, I, O, O, O, O, O, O, O, O, O, O, O, O, O, O, O, O, O, O, O, O, O, O, O] ?_ (any_of HT_.out (by kernel_rfl))
  refine kP 6 15 #[I, I, I, O, I, I, I, O, O, O, O, O, O, O, O, O, O, O, O, O, O, O, O, O, O, O, O, O, O] ?_ (any_of HT_.out (by kernel_rfl))
  refine kP 8 17 #[I, I, I, O, I, I, I, O, I, O, O, O, O, O, O, O, O, O, O, O, O, O, O, O, O, O, O, O, O] ?_ (any_of HT_.out (by kernel_rfl))
  refine kP 9 18 #[I, I, I, O, I, I, I, O, I, I, O, O, O, O, O, O, O, O, O, O, O, O, O, O, O, O, O, O, O] ?_ (any_of HT_.out (by kernel_rfl))
  refine kP 10 19 #[I, I, I, O, I, I, I, O, I, I, I, O, O, O, O, O, O, O, O, O, O, O, O, O, O, O, O, O, O] ?_ (any_of HT_.out (by kernel_rfl))
  refine kP 13 22 #[I, I, I, O, I, I, I, O, I, I, I, O, O, I, O, O, O, O, O, O, O, O, O, O, O, O, O, O, O] ?_ (any_of HT_.out (by kernel_rfl))
  refine kP 14 23 #[I, I, I, O, I, I, I, O, I, I, I, O, O, I, I, O, O, O, O, O, O, O, O, O, O, O, O, O, O] ?_ (any_of HT_.out (by kernel_rfl))
  refine kP 15 24 #[I, I, I, O, I, I, I, O, I, I, I, O, O, I, I, I, O, O, O, O, O, O, O, O, O, O, O, O, O] ?_ (any_of HT_.out (by kernel_rfl))
  refine kP 17 26 #[I, I, I, O, I, I, I, O, I, I, I, O, O, I, I, I, O, I, O, O, O, O, O, O, O, O, O, O, O] ?_ (any_of HT_.out (by kernel_rfl))
  refine kP 18 27 #[I, I, I, O, I, I, I, O, I, I, I, O, O, I, I, I, O, I, I, O, O, O, O, O, O, O, O, O, O] ?_ (any_of HT_.out (by kernel_rfl))
  refine kP 19 28 #[I, I, I, O, I, I, I, O, I, I, I, O, O, I, I, I, O, I, I, I, O, O, O, O, O, O, O, O, O] ?_ (any_of HT_.out (by kernel_rfl))
  refine kP 22 31 #[I, I, I, O, I, I, I, O, I, I, I, O, O, I, I, I, O, I, I, I, O, O, I, O, O, O, O, O, O] ?_ (any_of HT_.out (by kernel_rfl))
  refine kP 23 32 #[I, I, I, O, I, I, I, O, I, I, I, O, O, I, I, I, O, I, I, I, O, O, I, I, O, O, O, O, O] ?_ (any_of HT_.out (by kernel_rfl))
  refine kP 24 33 #[I, I, I, O, I, I, I, O, I, I, I, O, O, I, I, I, O, I, I, I, O, O, I, I, I, O, O, O, O] ?_ (any_of HT_.out (by kernel_rfl))
  refine take_ (i := 3) (N := some 12) (v := ?_) (a' := ?_) #[I, I, I, I, I, I, I, O, I, I, I, O, O, I, I, I, O, I, I, I, O, O, I, I, I, O, O, O, O] rfl rfl (take_ofW HT_.out HW_.out (by kernel_rfl)) (fun _ _ _ h => h) (Or.inl ⟨by rfl, ?_⟩) hHeld ?_ ?_
  rotate_left
  ·rintro w' ⟨s0, s1, s2, s3, s4, s5, s6⟩
   go_simp
   with_reducible rfl
  rotate_left
  ·simp only [Act.put, sA, sZ, sS, i64_w, i32_w]
   rfl
  refine take_ (i := 7) (N := some 16) (v := ?_) (a' := ?_) #[I, I, I, I, I, I, I, I, I, I, I, O, O, I, I, I, O, I, I, I, O, O, I, I, I, O, O, O, O] rfl rfl (take_ofW HT_.out HW_.out (by kernel_rfl)) (fun _ _ _ h => h) (Or.inl ⟨by rfl, ?_⟩) hHeld ?_ ?_
  rotate_left
  ·rintro w' ⟨s0, s1, s2, s3, s4, s5, s6⟩
   go_simp
   with_reducible rfl
  rotate_left
  ·simp only [Act.put, sA, sZ, sS, i64_w, i32_w]
   rfl
  refine take_ (i := 11) (N := some 20) (v := ?_) (a' := ?_) #[I, I, I, I, I, I, I, I, I, I, I, I, O, I, I, I, O, I, I, I, O, O, I, I, I, O, O, O, O] rfl rfl (take_ofW HT_.out HW_.out (by kernel_rfl)) (fun _ _ _ h => h) (Or.inl ⟨by rfl, ?_⟩) hHeld ?_ ?_
  rotate_left
  ·rintro w' ⟨s0, s1, s2, s3, s4, s5, s6⟩
   go_simp
   with_reducible rfl
  rotate_left
  ·simp only [Act.put, sA, sZ, sS, i64_w, i32_w]
   rfl
  refine take_ (i := 16) (N := some 25) (v := ?_) (a' := ?_) #[I, I, I, I, I, I, I, I, I, I, I, I, O, I, I, I, I, I, I, I, O, O, I, I, I, O, O, O, O] rfl rfl (take_ofW HT_.out HW_.out (by kernel_rfl)) (fun _ _ _ h => h) (Or.inl ⟨by rfl, ?_⟩) hHeld ?_ ?_
  rotate_left
  ·rintro w' ⟨s0, s1, s2, s3, s4, s5, s6⟩
   go_simp
   with_reducible rfl
  rotate_left
  ·simp only [Act.put, sA, sZ, sS, i64_w, i32_w]
   rfl
  refine take_ (i := 20) (N := some 29) (v := ?_) (a' := ?_) #[I, I, I, I, I, I, I, I, I, I, I, I, O, I, I, I, I, I, I, I, I, O, I, I, I, O, O, O, O] rfl rfl (take_ofW HT_.out HW_.out (by kernel_rfl)) (fun _ _ _ h => h) (Or.inl ⟨by rfl, ?_⟩) hHeld ?_ ?_
  rotate_left
  ·rintro w' ⟨s0, s1, s2, s3, s4, s5, s6⟩
   go_simp
   with_reducible rfl
  rotate_left
  ·simp only [Act.put, sA, sZ, sS, i64_w, i32_w]
   rfl
  refine kP 21 30 #[I, I, I, I, I, I, I, I, I, I, I, I, O, I, I, I, I, I, I, I, I, I, I, I, I, O, O, O, O] ?_ (any_of HT_.out (by kernel_rfl))
  refine take_ (i := 25) (N := some 34) (v := ?_) (a' := ?_) #[I, I, I, I, I, I, I, I, I, I, I, I, O, I, I, I, I, I, I, I, I, I, I, I, I, I, O, O, O] rfl rfl (take_ofW HT_.out HW_.out (by kernel_rfl)) (fun _ _ _ h => h) (Or.inl ⟨by rfl, ?_⟩) hHeld ?_ ?_
  rotate_left
  ·rintro w' ⟨s0, s1, s2, s3, s4, s5, s6⟩
   go_simp
   with_reducible rfl
  rotate_left
  ·simp only [Act.put, sA, sZ, sS, i64_w, i32_w]
   rfl
  refine one_ (i := 12) (N := some 21) #[I, I, I, I, I, I, I, I, I, I, I, I, I, I, I, I, I, I, I, I, I, I, I, I, I, I, O, O, O] rfl rfl (one_of HT_.out (by kernel_rfl)) (by decide) (fun K hK => ?_)
  refine goes_ Try.func37 (by kernel_rfl) rfl #[.string s0_0, .int .i64 s0_1, .int .i64 4, .bool s0_3] (by rfl) rfl rfl kA ?_
  with_reducible refine (intrusionref09_number.calls k s0_0 s0_1 4 s0_3 t304 _ A2.out).mono ?_
  rintro e w' ⟨rfl, ⟨nd, rfl⟩⟩
  refine ⟨_, rfl, ?_⟩
  refine hK.out _ _ ⟨(cellS41_0 (show IsS41 w0 _ g s0_0 s0_1 s0_2 s0_3 s0_4 s0_5 s0_6 from by repeat (first | (with_reducible first | exact HI0.out | apply IsS41.alloc | apply IsS41.drewN | apply IsS41.drew | apply IsS41.set_0 | apply IsS41.set_1 | apply IsS41.set_2 | apply IsS41.set_3 | apply IsS41.set_4 | apply IsS41.set_5 | apply IsS41.set_6) | exact HI0.out)).1), (cellS41_1 (show IsS41 w0 _ g s0_0 s0_1 s0_2 s0_3 s0_4 s0_5 s0_6 from by repeat (first | (with_reducible first | exact HI0.out | apply IsS41.alloc | apply IsS41.drewN | apply IsS41.drew | apply IsS41.set_0 | apply IsS41.set_1 | apply IsS41.set_2 | apply IsS41.set_3 | apply IsS41.set_4 | apply IsS41.set_5 | apply IsS41.set_6) | exact HI0.out)).1), (cellS41_2 (show IsS41 w0 _ g s0_0 s0_1 s0_2 s0_3 s0_4 s0_5 s0_6 from by repeat (first | (with_reducible first | exact HI0.out | apply IsS41.alloc | apply IsS41.drewN | apply IsS41.drew | apply IsS41.set_0 | apply IsS41.set_1 | apply IsS41.set_2 | apply IsS41.set_3 | apply IsS41.set_4 | apply IsS41.set_5 | apply IsS41.set_6) | exact HI0.out)).1), (cellS41_3 (show IsS41 w0 _ g s0_0 s0_1 s0_2 s0_3 s0_4 s0_5 s0_6 from by repeat (first | (with_reducible first | exact HI0.out | apply IsS41.alloc | apply IsS41.drewN | apply IsS41.drew | apply IsS41.set_0 | apply IsS41.set_1 | apply IsS41.set_2 | apply IsS41.set_3 | apply IsS41.set_4 | apply IsS41.set_5 | apply IsS41.set_6) | exact HI0.out)).1), (cellS41_4 (show IsS41 w0 _ g s0_0 s0_1 s0_2 s0_3 s0_4 s0_5 s0_6 from by repeat (first | (with_reducible first | exact HI0.out | apply IsS41.alloc | apply IsS41.drewN | apply IsS41.drew | apply IsS41.set_0 | apply IsS41.set_1 | apply IsS41.set_2 | apply IsS41.set_3 | apply IsS41.set_4 | apply IsS41.set_5 | apply IsS41.set_6) | exact HI0.out)).1), (cellS41_5 (show IsS41 w0 _ g s0_0 s0_1 s0_2 s0_3 s0_4 s0_5 s0_6 from by repeat (first | (with_reducible first | exact HI0.out | apply IsS41.alloc | apply IsS41.drewN | apply IsS41.drew | apply IsS41.set_0 | apply IsS41.set_1 | apply IsS41.set_2 | apply IsS41.set_3 | apply IsS41.set_4 | apply IsS41.set_5 | apply IsS41.set_6) | exact HI0.out)).1), (cellS41_6 (show IsS41 w0 _ g s0_0 s0_1 s0_2 s0_3 s0_4 s0_5 s0_6 from by repeat (first | (with_reducible first | exact HI0.out | apply IsS41.alloc | apply IsS41.drewN | apply IsS41.drew | apply IsS41.set_0 | apply IsS41.set_1 | apply IsS41.set_2 | apply IsS41.set_3 | apply IsS41.set_4 | apply IsS41.set_5 | apply IsS41.set_6) | exact HI0.out)).1)⟩ (fun hHeld => ?_)
  clear hK K
  refine norm_ (a' := ?_) ?_ ?_
  rotate_left
  ·show Act.put _ (some 21) _ = _
   simp only [Act.put, sA, sZ, sS, i64_w, i32_w]
   rfl
  refine one_ (i := 26) (N := some 35) #[I, I, I, I, I, I, I, I, I, I, I, I, I, I, I, I, I, I, I, I, I, I, I, I, I, I, I, O, O] rfl rfl (one_of HT_.out (by kernel_rfl)) (by decide) (fun K hK => ?_)
  refine goes_ Try.func37 (by kernel_rfl) rfl #[.string s0_0, .int .i64 (wrap64 (s0_1 + 4)), .int .i64 4, .bool s0_3] (by rfl) rfl rfl kA ?_
  with_reducible refine (intrusionref09_number.calls k s0_0 (wrap64 (s0_1 + 4)) 4 s0_3 t305 _ A3.out).mono ?_
  rintro e w' ⟨rfl, ⟨nd, rfl⟩⟩
  refine ⟨_, rfl, ?_⟩
  refine hK.out _ _ ⟨(cellS41_0 (show IsS41 w0 _ g s0_0 s0_1 s0_2 s0_3 s0_4 s0_5 s0_6 from by repeat (first | (with_reducible first | exact HI0.out | apply IsS41.alloc | apply IsS41.drewN | apply IsS41.drew | apply IsS41.set_0 | apply IsS41.set_1 | apply IsS41.set_2 | apply IsS41.set_3 | apply IsS41.set_4 | apply IsS41.set_5 | apply IsS41.set_6) | exact HI0.out)).1), (cellS41_1 (show IsS41 w0 _ g s0_0 s0_1 s0_2 s0_3 s0_4 s0_5 s0_6 from by repeat (first | (with_reducible first | exact HI0.out | apply IsS41.alloc | apply IsS41.drewN | apply IsS41.drew | apply IsS41.set_0 | apply IsS41.set_1 | apply IsS41.set_2 | apply IsS41.set_3 | apply IsS41.set_4 | apply IsS41.set_5 | apply IsS41.set_6) | exact HI0.out)).1), (cellS41_2 (show IsS41 w0 _ g s0_0 s0_1 s0_2 s0_3 s0_4 s0_5 s0_6 from by repeat (first | (with_reducible first | exact HI0.out | apply IsS41.alloc | apply IsS41.drewN | apply IsS41.drew | apply IsS41.set_0 | apply IsS41.set_1 | apply IsS41.set_2 | apply IsS41.set_3 | apply IsS41.set_4 | apply IsS41.set_5 | apply IsS41.set_6) | exact HI0.out)).1), (cellS41_3 (show IsS41 w0 _ g s0_0 s0_1 s0_2 s0_3 s0_4 s0_5 s0_6 from by repeat (first | (with_reducible first | exact HI0.out | apply IsS41.alloc | apply IsS41.drewN | apply IsS41.drew | apply IsS41.set_0 | apply IsS41.set_1 | apply IsS41.set_2 | apply IsS41.set_3 | apply IsS41.set_4 | apply IsS41.set_5 | apply IsS41.set_6) | exact HI0.out)).1), (cellS41_4 (show IsS41 w0 _ g s0_0 s0_1 s0_2 s0_3 s0_4 s0_5 s0_6 from by repeat (first | (with_reducible first | exact HI0.out | apply IsS41.alloc | apply IsS41.drewN | apply IsS41.drew | apply IsS41.set_0 | apply IsS41.set_1 | apply IsS41.set_2 | apply IsS41.set_3 | apply IsS41.set_4 | apply IsS41.set_5 | apply IsS41.set_6) | exact HI0.out)).1), (cellS41_5 (show IsS41 w0 _ g s0_0 s0_1 s0_2 s0_3 s0_4 s0_5 s0_6 from by repeat (first | (with_reducible first | exact HI0.out | apply IsS41.alloc | apply IsS41.drewN | apply IsS41.drew | apply IsS41.set_0 | apply IsS41.set_1 | apply IsS41.set_2 | apply IsS41.set_3 | apply IsS41.set_4 | apply IsS41.set_5 | apply IsS41.set_6) | exact HI0.out)).1), (cellS41_6 (show IsS41 w0 _ g s0_0 s0_1 s0_2 s0_3 s0_4 s0_5 s0_6 from by repeat (first | (with_reducible first | exact HI0.out | apply IsS41.alloc | apply IsS41.drewN | apply IsS41.drew | apply IsS41.set_0 | apply IsS41.set_1 | apply IsS41.set_2 | apply IsS41.set_3 | apply IsS41.set_4 | apply IsS41.set_5 | apply IsS41.set_6) | exact HI0.out)).1)⟩ (fun hHeld => ?_)
  clear hK K
  refine norm_ (a' := ?_) ?_ ?_
  rotate_left
  ·show Act.put _ (some 35) _ = _
   simp only [Act.put, sA, sZ, sS, i64_w, i32_w]
   rfl
  refine kP 27 4 #[I, I, I, I, I, I, I, I, I, I, I, I, I, I, I, I, I, I, I, I, I, I, I, I, I, I, I, I, O] ?_ (any_of HT_.out (by kernel_rfl))
  refine kP 28 5 #[I, I, I, I, I, I, I, I, I, I, I, I, I, I, I, I, I, I, I, I, I, I, I, I, I, I, I, I, I] ?_ (any_of HT_.out (by kernel_rfl))
  refine done_ (done_of HT_.out (by kernel_rfl)) ?_
  try go_wp2
  (try ((repeat rw [World.drewN_drewN]); rw [drewN_self w7]; generalize hq_ : World.drewN w7 _ = w7; have n0_ : Aside0 (IsS41 w0 w7 g s0_0 s0_1 s0_2 s0_3 s0_4 s0_5 s0_6) := ⟨by rw [← hq_]; exact (by repeat (first | (with_reducible first | exact HI0.out | apply IsS41.alloc | apply IsS41.drewN | apply IsS41.drew | apply IsS41.set_0 | apply IsS41.set_1 | apply IsS41.set_2 | apply IsS41.set_3 | apply IsS41.set_4 | apply IsS41.set_5 | apply IsS41.set_6) | exact HI0.out))⟩; have n1_ : Aside0 (KeepBut w w7 g none) := ⟨by rw [← hq_]; exact (by repeat (first | (with_reducible first | exact HK.out | apply KeepBut.set_ | apply keep_drewN | apply keep_drew | apply keep_alloc) | exact HK.out))⟩; have n2_ : Aside0 (Below w0.heap.size w0 w7) := ⟨by rw [← hq_]; exact (kB1 HB.out (IsS41.ge HI0.out))⟩; clear HI0 HK HB hq_; have HI0 := n0_; have HK := n1_; have HB := n2_; clear n0_ n1_ n2_))
  replace HI0 := As (IsS41.drew HI0.out)
  replace HK := As (keep_drew HK.out)
  replace HB := As (below_drew1 HB.out)
  refine start_ (n := 30) (S := fun w' => w'.cell? ⟨g, 0, none⟩ = some (.string s0_0) ∧ w'.cell? ⟨g, 1, none⟩ = some (.int .i64 s0_1) ∧ w'.cell? ⟨g, 2, none⟩ = some (.bool s0_2) ∧ w'.cell? ⟨g, 3, none⟩ = some (.bool s0_3) ∧ w'.cell? ⟨g, 4, none⟩ = some (.int .i64 s0_4) ∧ w'.cell? ⟨g, 5, none⟩ = some (.int .i64 s0_5) ∧ w'.cell? ⟨g, 6, none⟩ = some (.bool s0_6)) (ds := []) #[O, O, O, O, O, O, O, O, O, O, O, O, O, O, O, O, O, O, O, O, O, O, O, O, O, O, O, O, O, O] (by kernel_rfl) rfl rfl ⟨(cellS41_0 (show IsS41 w0 _ g s0_0 s0_1 s0_2 s0_3 s0_4 s0_5 s0_6 from by repeat (first | (with_reducible first | exact HI0.out | apply IsS41.alloc | apply IsS41.drewN | apply IsS41.drew | apply IsS41.set_0 | apply IsS41.set_1 | apply IsS41.set_2 | apply IsS41.set_3 | apply IsS41.set_4 | apply IsS41.set_5 | apply IsS41.set_6) | exact HI0.out)).1), (cellS41_1 (show IsS41 w0 _ g s0_0 s0_1 s0_2 s0_3 s0_4 s0_5 s0_6 from by repeat (first | (with_reducible first | exact HI0.out | apply IsS41.alloc | apply IsS41.drewN | apply IsS41.drew | apply IsS41.set_0 | apply IsS41.set_1 | apply IsS41.set_2 | apply IsS41.set_3 | apply IsS41.set_4 | apply IsS41.set_5 | apply IsS41.set_6) | exact HI0.out)).1), (cellS41_2 (show IsS41 w0 _ g s0_0 s0_1 s0_2 s0_3 s0_4 s0_5 s0_6 from by repeat (first | (with_reducible first | exact HI0.out | apply IsS41.alloc | apply IsS41.drewN | apply IsS41.drew | apply IsS41.set_0 | apply IsS41.set_1 | apply IsS41.set_2 | apply IsS41.set_3 | apply IsS41.set_4 | apply IsS41.set_5 | apply IsS41.set_6) | exact HI0.out)).1), (cellS41_3 (show IsS41 w0 _ g s0_0 s0_1 s0_2 s0_3 s0_4 s0_5 s0_6 from by repeat (first | (with_reducible first | exact HI0.out | apply IsS41.alloc | apply IsS41.drewN | apply IsS41.drew | apply IsS41.set_0 | apply IsS41.set_1 | apply IsS41.set_2 | apply IsS41.set_3 | apply IsS41.set_4 | apply IsS41.set_5 | apply IsS41.set_6) | exact HI0.out)).1), (cellS41_4 (show IsS41 w0 _ g s0_0 s0_1 s0_2 s0_3 s0_4 s0_5 s0_6 from by repeat (first | (with_reducible first | exact HI0.out | apply IsS41.alloc | apply IsS41.drewN | apply IsS41.drew | apply IsS41.set_0 | apply IsS41.set_1 | apply IsS41.set_2 | apply IsS41.set_3 | apply IsS41.set_4 | apply IsS41.set_5 | apply IsS41.set_6) | exact HI0.out)).1), (cellS41_5 (show IsS41 w0 _ g s0_0 s0_1 s0_2 s0_3 s0_4 s0_5 s0_6 from by repeat (first | (with_reducible first | exact HI0.out | apply IsS41.alloc | apply IsS41.drewN | apply IsS41.drew | apply IsS41.set_0 | apply IsS41.set_1 | apply IsS41.set_2 | apply IsS41.set_3 | apply IsS41.set_4 | apply IsS41.set_5 | apply IsS41.set_6) | exact HI0.out)).1), (cellS41_6 (show IsS41 w0 _ g s0_0 s0_1 s0_2 s0_3 s0_4 s0_5 s0_6 from by repeat (first | (with_reducible first | exact HI0.out | apply IsS41.alloc | apply IsS41.drewN | apply IsS41.drew | apply IsS41.set_0 | apply IsS41.set_1 | apply IsS41.set_2 | apply IsS41.set_3 | apply IsS41.set_4 | apply IsS41.set_5 | apply IsS41.set_6) | exact HI0.out)).1)⟩ (fun hHeld => ?_); refine with_tabW intrusionref09_Reader_check.tab2 intrusionref09_Reader_check.bits2 (fun HT_ HW_ => ?_)
  generalize w7.drew = w8 at HI0 HK HB hHeld ⊢
  refine kP 0 36 #[I, O, O, O, O, O, O, O, O, O, O, O, O, O, O, O, O, O, O, O, O, O, O, O, O, O, O, O, O, O] ?_ (any_of HT_.out (by kernel_rfl))
  refine kP 1 37 #[I, I, O, O, O, O, O, O, O, O, O, O, O, O, O, O, O, O, O, O, O, O, O, O, O, O, O, O, O, O] ?_ (any_of HT_.out (by kernel_rfl))
  refine kP 2 38 #[I, I, I, O, O, O, O, O, O, O, O, O, O, O, O, O, O, O, O, O, O, O, O, O, O, O, O, O, O, O] ?_ (any_of HT_.out (by kernel_rfl))
  refine kP 4 40 #[I, I, I, O, I, O, O, O, O, O, O, O, O, O, O, O, O, O, O, O, O, O, O, O, O, O, O, O, O, O] ?_ (any_of HT_.out (by kernel_rfl))
  refine kP 5 41 #[I, I, I, O, I, I, O, O, O, O, O, O, O, O, O, O, O, O, O, O, O, O, O, O, O, O, O, O, O, O] ?_ (any_of HT_.out (by kernel_rfl))
  refine kP 6 42 #[I, I, I, O, I, I, I, O, O, O, O, O, O, O, O, O, O, O, O, O, O, O, O, O, O, O, O, O, O, O] ?_ (any_of HT_.out (by kernel_rfl))
  refine kP 9 45 #[I, I, I, O, I, I, I, O, O, I, O, O, O, O, O, O, O, O, O, O, O, O, O, O, O, O, O, O, O, O] ?_ (any_of HT_.out (by kernel_rfl))
  refine kP 10 46 #[I, I, I, O, I, I, I, O, O, I, I, O, O, O, O, O, O, O, O, O, O, O, O, O, O, O, O, O, O, O] ?_ (any_of HT_.out (by kernel_rfl))
  refine kP 11 47 #[I, I, I, O, I, I, I, O, O, I, I, I, O, O, O, O, O, O, O, O, O, O, O, O, O, O, O, O, O, O] ?_ (any_of HT_.out (by kernel_rfl))
  refine kP 14 50 #[I, I, I, O, I, I, I, O, O, I, I, I, O, O, I, O, O, O, O, O, O, O, O, O, O, O, O, O, O, O] ?_ (any_of HT_.out (by kernel_rfl))
  refine kP 15 51 #[I, I, I, O, I, I, I, O, O, I, I, I, O, O, I, I, O, O, O, O, O, O, O, O, O, O, O, O, O, O] ?_ (any_of HT_.out (by kernel_rfl))
  refine kP 16 52 #[I, I, I, O, I, I, I, O, O, I, I, I, O, O, I, I, I, O, O, O, O, O, O, O, O, O, O, O, O, O] ?_ (any_of HT_.out (by kernel_rfl))
  refine kP 18 54 #[I, I, I, O, I, I, I, O, O, I, I, I, O, O, I, I, I, O, I, O, O, O, O, O, O, O, O, O, O, O] ?_ (any_of HT_.out (by kernel_rfl))
  refine kP 19 55 #[I, I, I, O, I, I, I, O, O, I, I, I, O, O, I, I, I, O, I, I, O, O, O, O, O, O, O, O, O, O] ?_ (any_of HT_.out (by kernel_rfl))
  refine kP 20 56 #[I, I, I, O, I, I, I, O, O, I, I, I, O, O, I, I, I, O, I, I, I, O, O, O, O, O, O, O, O, O] ?_ (any_of HT_.out (by kernel_rfl))
  refine kP 23 59 #[I, I, I, O, I, I, I, O, O, I, I, I, O, O, I, I, I, O, I, I, I, O, O, I, O, O, O, O, O, O] ?_ (any_of HT_.out (by kernel_rfl))
  refine kP 24 60 #[I, I, I, O, I, I, I, O, O, I, I, I, O, O, I, I, I, O, I, I, I, O, O, I, I, O, O, O, O, O] ?_ (any_of HT_.out (by kernel_rfl))
  refine kP 25 61 #[I, I, I, O, I, I, I, O, O, I, I, I, O, O, I, I, I, O, I, I, I, O, O, I, I, I, O, O, O, O] ?_ (any_of HT_.out (by kernel_rfl))
  refine take_ (i := 3) (N := some 39) (v := ?_) (a' := ?_) #[I, I, I, I, I, I, I, O, O, I, I, I, O, O, I, I, I, O, I, I, I, O, O, I, I, I, O, O, O, O] rfl rfl (take_ofW HT_.out HW_.out (by kernel_rfl)) (fun _ _ _ h => h) (Or.inl ⟨by rfl, ?_⟩) hHeld ?_ ?_
  rotate_left
  ·rintro w' ⟨s0, s1, s2, s3, s4, s5, s6⟩
   go_simp
   with_reducible rfl
  rotate_left
  ·simp only [Act.put, sA, sZ, sS, i64_w, i32_w]
   rfl
  refine take_ (i := 7) (N := some 43) (v := ?_) (a' := ?_) #[I, I, I, I, I, I, I, I, O, I, I, I, O, O, I, I, I, O, I, I, I, O, O, I, I, I, O, O, O, O] rfl rfl (take_ofW HT_.out HW_.out (by kernel_rfl)) (fun _ _ _ h => h) (Or.inl ⟨by rfl, ?_⟩) hHeld ?_ ?_
  rotate_left
  ·rintro w' ⟨s0, s1, s2, s3, s4, s5, s6⟩
   go_simp
   with_reducible rfl
  rotate_left
  ·simp only [Act.put, sA, sZ, sS, i64_w, i32_w]
   rfl
  refine kP 8 44 #[I, I, I, I, I, I, I, I, I, I, I, I, O, O, I, I, I, O, I, I, I, O, O, I, I, I, O, O, O, O] ?_ (any_of HT_.out (by kernel_rfl))
  refine take_ (i := 12) (N := some 48) (v := ?_) (a' := ?_) #[I, I, I, I, I, I, I, I, I, I, I, I, I, O, I, I, I, O, I, I, I, O, O, I, I, I, O, O, O, O] rfl rfl (take_ofW HT_.out HW_.out (by kernel_rfl)) (fun _ _ _ h => h) (Or.inl ⟨by rfl, ?_⟩) hHeld ?_ ?_
  rotate_left
  ·rintro w' ⟨s0, s1, s2, s3, s4, s5, s6⟩
   go_simp
   with_reducible rfl
  rotate_left
  ·simp only [Act.put, sA, sZ, sS, i64_w, i32_w]
   rfl
  refine take_ (i := 17) (N := some 53) (v := ?_) (a' := ?_) #[I, I, I, I, I, I, I, I, I, I, I, I, I, O, I, I, I, I, I, I, I, O, O, I, I, I, O, O, O, O] rfl rfl (take_ofW HT_.out HW_.out (by kernel_rfl)) (fun _ _ _ h => h) (Or.inl ⟨by rfl, ?_⟩) hHeld ?_ ?_
  rotate_left
  ·rintro w' ⟨s0, s1, s2, s3, s4, s5, s6⟩
   go_simp
   with_reducible rfl
  rotate_left
  ·simp only [Act.put, sA, sZ, sS, i64_w, i32_w]
   rfl
  refine take_ (i := 21) (N := some 57) (v := ?_) (a' := ?_) #[I, I, I, I, I, I, I, I, I, I, I, I, I, O, I, I, I, I, I, I, I, I, O, I, I, I, O, O, O, O] rfl rfl (take_ofW HT_.out HW_.out (by kernel_rfl)) (fun _ _ _ h => h) (Or.inl ⟨by rfl, ?_⟩) hHeld ?_ ?_
  rotate_left
  ·rintro w' ⟨s0, s1, s2, s3, s4, s5, s6⟩
   go_simp
   with_reducible rfl
  rotate_left
  ·simp only [Act.put, sA, sZ, sS, i64_w, i32_w]
   rfl
  refine kP 22 58 #[I, I, I, I, I, I, I, I, I, I, I, I, I, O, I, I, I, I, I, I, I, I, I, I, I, I, O, O, O, O] ?_ (any_of HT_.out (by kernel_rfl))
  refine take_ (i := 26) (N := some 62) (v := ?_) (a' := ?_) #[I, I, I, I, I, I, I, I, I, I, I, I, I, O, I, I, I, I, I, I, I, I, I, I, I, I, I, O, O, O] rfl rfl (take_ofW HT_.out HW_.out (by kernel_rfl)) (fun _ _ _ h => h) (Or.inl ⟨by rfl, ?_⟩) hHeld ?_ ?_
  rotate_left
  ·rintro w' ⟨s0, s1, s2, s3, s4, s5, s6⟩
   go_simp
   with_reducible rfl
  rotate_left
  ·simp only [Act.put, sA, sZ, sS, i64_w, i32_w]
   rfl
  refine one_ (i := 13) (N := some 49) #[I, I, I, I, I, I, I, I, I, I, I, I, I, I, I, I, I, I, I, I, I, I, I, I, I, I, I, O, O, O] rfl rfl (one_of HT_.out (by kernel_rfl)) (by decide) (fun K hK => ?_)
  refine goes_ Try.func37 (by kernel_rfl) rfl #[.string s0_0, .int .i64 (wrap64 (s0_1 + 8)), .int .i64 4, .bool s0_3] (by rfl) rfl rfl kA ?_
  with_reducible refine (intrusionref09_number.calls k s0_0 (wrap64 (s0_1 + 8)) 4 s0_3 t306 _ A4.out).mono ?_
  rintro e w' ⟨rfl, ⟨nd, rfl⟩⟩
  refine ⟨_, rfl, ?_⟩
  refine hK.out _ _ ⟨(cellS41_0 (show IsS41 w0 _ g s0_0 s0_1 s0_2 s0_3 s0_4 s0_5 s0_6 from by repeat (first | (with_reducible first | exact HI0.out | apply IsS41.alloc | apply IsS41.drewN | apply IsS41.drew | apply IsS41.set_0 | apply IsS41.set_1 | apply IsS41.set_2 | apply IsS41.set_3 | apply IsS41.set_4 | apply IsS41.set_5 | apply IsS41.set_6) | exact HI0.out)).1), (cellS41_1 (show IsS41 w0 _ g s0_0 s0_1 s0_2 s0_3 s0_4 s0_5 s0_6 from by repeat (first | (with_reducible first | exact HI0.out | apply IsS41.alloc | apply IsS41.drewN | apply IsS41.drew | apply IsS41.set_0 | apply IsS41.set_1 | apply IsS41.set_2 | apply IsS41.set_3 | apply IsS41.set_4 | apply IsS41.set_5 | apply IsS41.set_6) | exact HI0.out)).1), (cellS41_2 (show IsS41 w0 _ g s0_0 s0_1 s0_2 s0_3 s0_4 s0_5 s0_6 from by repeat (first | (with_reducible first | exact HI0.out | apply IsS41.alloc | apply IsS41.drewN | apply IsS41.drew | apply IsS41.set_0 | apply IsS41.set_1 | apply IsS41.set_2 | apply IsS41.set_3 | apply IsS41.set_4 | apply IsS41.set_5 | apply IsS41.set_6) | exact HI0.out)).1), (cellS41_3 (show IsS41 w0 _ g s0_0 s0_1 s0_2 s0_3 s0_4 s0_5 s0_6 from by repeat (first | (with_reducible first | exact HI0.out | apply IsS41.alloc | apply IsS41.drewN | apply IsS41.drew | apply IsS41.set_0 | apply IsS41.set_1 | apply IsS41.set_2 | apply IsS41.set_3 | apply IsS41.set_4 | apply IsS41.set_5 | apply IsS41.set_6) | exact HI0.out)).1), (cellS41_4 (show IsS41 w0 _ g s0_0 s0_1 s0_2 s0_3 s0_4 s0_5 s0_6 from by repeat (first | (with_reducible first | exact HI0.out | apply IsS41.alloc | apply IsS41.drewN | apply IsS41.drew | apply IsS41.set_0 | apply IsS41.set_1 | apply IsS41.set_2 | apply IsS41.set_3 | apply IsS41.set_4 | apply IsS41.set_5 | apply IsS41.set_6) | exact HI0.out)).1), (cellS41_5 (show IsS41 w0 _ g s0_0 s0_1 s0_2 s0_3 s0_4 s0_5 s0_6 from by repeat (first | (with_reducible first | exact HI0.out | apply IsS41.alloc | apply IsS41.drewN | apply IsS41.drew | apply IsS41.set_0 | apply IsS41.set_1 | apply IsS41.set_2 | apply IsS41.set_3 | apply IsS41.set_4 | apply IsS41.set_5 | apply IsS41.set_6) | exact HI0.out)).1), (cellS41_6 (show IsS41 w0 _ g s0_0 s0_1 s0_2 s0_3 s0_4 s0_5 s0_6 from by repeat (first | (with_reducible first | exact HI0.out | apply IsS41.alloc | apply IsS41.drewN | apply IsS41.drew | apply IsS41.set_0 | apply IsS41.set_1 | apply IsS41.set_2 | apply IsS41.set_3 | apply IsS41.set_4 | apply IsS41.set_5 | apply IsS41.set_6) | exact HI0.out)).1)⟩ (fun hHeld => ?_)
  clear hK K
  refine norm_ (a' := ?_) ?_ ?_
  rotate_left
  ·show Act.put _ (some 49) _ = _
   simp only [Act.put, sA, sZ, sS, i64_w, i32_w]
   rfl
  refine one_ (i := 27) (N := some 63) #[I, I, I, I, I, I, I, I, I, I, I, I, I, I, I, I, I, I, I, I, I, I, I, I, I, I, I, I, O, O] rfl rfl (one_of HT_.out (by kernel_rfl)) (by decide) (fun K hK => ?_)
  refine goes_ Try.func37 (by kernel_rfl) rfl #[.string s0_0, .int .i64 (wrap64 (s0_1 + 12)), .int .i64 4, .bool s0_3] (by rfl) rfl rfl kA ?_
  with_reducible refine (intrusionref09_number.calls k s0_0 (wrap64 (s0_1 + 12)) 4 s0_3 t307 _ A5.out).mono ?_
  rintro e w' ⟨rfl, ⟨nd, rfl⟩⟩
  refine ⟨_, rfl, ?_⟩
  refine hK.out _ _ ⟨(cellS41_0 (show IsS41 w0 _ g s0_0 s0_1 s0_2 s0_3 s0_4 s0_5 s0_6 from by repeat (first | (with_reducible first | exact HI0.out | apply IsS41.alloc | apply IsS41.drewN | apply IsS41.drew | apply IsS41.set_0 | apply IsS41.set_1 | apply IsS41.set_2 | apply IsS41.set_3 | apply IsS41.set_4 | apply IsS41.set_5 | apply IsS41.set_6) | exact HI0.out)).1), (cellS41_1 (show IsS41 w0 _ g s0_0 s0_1 s0_2 s0_3 s0_4 s0_5 s0_6 from by repeat (first | (with_reducible first | exact HI0.out | apply IsS41.alloc | apply IsS41.drewN | apply IsS41.drew | apply IsS41.set_0 | apply IsS41.set_1 | apply IsS41.set_2 | apply IsS41.set_3 | apply IsS41.set_4 | apply IsS41.set_5 | apply IsS41.set_6) | exact HI0.out)).1), (cellS41_2 (show IsS41 w0 _ g s0_0 s0_1 s0_2 s0_3 s0_4 s0_5 s0_6 from by repeat (first | (with_reducible first | exact HI0.out | apply IsS41.alloc | apply IsS41.drewN | apply IsS41.drew | apply IsS41.set_0 | apply IsS41.set_1 | apply IsS41.set_2 | apply IsS41.set_3 | apply IsS41.set_4 | apply IsS41.set_5 | apply IsS41.set_6) | exact HI0.out)).1), (cellS41_3 (show IsS41 w0 _ g s0_0 s0_1 s0_2 s0_3 s0_4 s0_5 s0_6 from by repeat (first | (with_reducible first | exact HI0.out | apply IsS41.alloc | apply IsS41.drewN | apply IsS41.drew | apply IsS41.set_0 | apply IsS41.set_1 | apply IsS41.set_2 | apply IsS41.set_3 | apply IsS41.set_4 | apply IsS41.set_5 | apply IsS41.set_6) | exact HI0.out)).1), (cellS41_4 (show IsS41 w0 _ g s0_0 s0_1 s0_2 s0_3 s0_4 s0_5 s0_6 from by repeat (first | (with_reducible first | exact HI0.out | apply IsS41.alloc | apply IsS41.drewN | apply IsS41.drew | apply IsS41.set_0 | apply IsS41.set_1 | apply IsS41.set_2 | apply IsS41.set_3 | apply IsS41.set_4 | apply IsS41.set_5 | apply IsS41.set_6) | exact HI0.out)).1), (cellS41_5 (show IsS41 w0 _ g s0_0 s0_1 s0_2 s0_3 s0_4 s0_5 s0_6 from by repeat (first | (with_reducible first | exact HI0.out | apply IsS41.alloc | apply IsS41.drewN | apply IsS41.drew | apply IsS41.set_0 | apply IsS41.set_1 | apply IsS41.set_2 | apply IsS41.set_3 | apply IsS41.set_4 | apply IsS41.set_5 | apply IsS41.set_6) | exact HI0.out)).1), (cellS41_6 (show IsS41 w0 _ g s0_0 s0_1 s0_2 s0_3 s0_4 s0_5 s0_6 from by repeat (first | (with_reducible first | exact HI0.out | apply IsS41.alloc | apply IsS41.drewN | apply IsS41.drew | apply IsS41.set_0 | apply IsS41.set_1 | apply IsS41.set_2 | apply IsS41.set_3 | apply IsS41.set_4 | apply IsS41.set_5 | apply IsS41.set_6) | exact HI0.out)).1)⟩ (fun hHeld => ?_)
  clear hK K
  refine norm_ (a' := ?_) ?_ ?_
  rotate_left
  ·show Act.put _ (some 63) _ = _
   simp only [Act.put, sA, sZ, sS, i64_w, i32_w]
   rfl
  refine kP 28 6 #[I, I, I, I, I, I, I, I, I, I, I, I, I, I, I, I, I, I, I, I, I, I, I, I, I, I, I, I, I, O] ?_ (any_of HT_.out (by kernel_rfl))
  refine kP 29 7 #[I, I, I, I, I, I, I, I, I, I, I, I, I, I, I, I, I, I, I, I, I, I, I, I, I, I, I, I, I, I] ?_ (any_of HT_.out (by kernel_rfl))
  refine done_ (done_of HT_.out (by kernel_rfl)) ?_
  try go_wp2
  go_ret2
  exact ⟨_, kE, by first | exact Kd.R_nil _ _ _ _ _ | exact Kd.N_nil _ _ _ _ _ | exact Kd.V_nil _ _ _ _ _ | exact Kd.Q_nil _ _ _ _ _ | exact Kd.S_nil _ _ _ _ _, by repeat (first | (with_reducible first | exact HI0.out | apply IsS41.alloc | apply IsS41.drewN | apply IsS41.drew | apply IsS41.set_0 | apply IsS41.set_1 | apply IsS41.set_2 | apply IsS41.set_3 | apply IsS41.set_4 | apply IsS41.set_5 | apply IsS41.set_6) | exact HI0.out), by exact kB1 HB.out (IsS41.ge HI0.out), by repeat (first | (with_reducible first | exact HK.out | apply KeepBut.set_ | apply keep_drewN | apply keep_drew | apply keep_alloc) | exact HK.out)⟩
 rw [if_neg c6] at H
 have c6b0 : decide (999999 < t305) = false := decide_eq_false c6
 clear c6
 have HC9 := As H
 clear H
 go_enter Try.func32, Try.ntmps32
 try go_wp2
 replace HI0 := As (IsS41.drew HI0.out)
 replace HK := As (keep_drew HK.out)
 replace HB := As (below_drew1 HB.out)
 refine start_ (n := 29) (S := fun w' => w'.cell? ⟨g, 0, none⟩ = some (.string s0_0) ∧ w'.cell? ⟨g, 1, none⟩ = some (.int .i64 s0_1) ∧ w'.cell? ⟨g, 2, none⟩ = some (.bool s0_2) ∧ w'.cell? ⟨g, 3, none⟩ = some (.bool s0_3) ∧ w'.cell? ⟨g, 4, none⟩ = some (.int .i64 s0_4) ∧ w'.cell? ⟨g, 5, none⟩ = some (.int .i64 s0_5) ∧ w'.cell? ⟨g, 6, none⟩ = some (.bool s0_6)) (ds := []) #[O, O, O, O, O, O, O, O, O, O, O, O, O, O, O, O, O, O, O, O, O, O, O, O, O, O, O, O, O] (by kernel_rfl) rfl rfl ⟨(cellS41_0 (show IsS41 w0 _ g s0_0 s0_1 s0_2 s0_3 s0_4 s0_5 s0_6 from by repeat (first | (with_reducible first | exact HI0.out | apply IsS41.alloc | apply IsS41.drewN | apply IsS41.drew | apply IsS41.set_0 | apply IsS41.set_1 | apply IsS41.set_2 | apply IsS41.set_3 | apply IsS41.set_4 | apply IsS41.set_5 | apply IsS41.set_6) | exact HI0.out)).1), (cellS41_1 (show IsS41 w0 _ g s0_0 s0_1 s0_2 s0_3 s0_4 s0_5 s0_6 from by repeat (first | (with_reducible first | exact HI0.out | apply IsS41.alloc | apply IsS41.drewN | apply IsS41.drew | apply IsS41.set_0 | apply IsS41.set_1 | apply IsS41.set_2 | apply IsS41.set_3 | apply IsS41.set_4 | apply IsS41.set_5 | apply IsS41.set_6) | exact HI0.out)).1), (cellS41_2 (show IsS41 w0 _ g s0_0 s0_1 s0_2 s0_3 s0_4 s0_5 s0_6 from by repeat (first | (with_reducible first | exact HI0.out | apply IsS41.alloc | apply IsS41.drewN | apply IsS41.drew | apply IsS41.set_0 | apply IsS41.set_1 | apply IsS41.set_2 | apply IsS41.set_3 | apply IsS41.set_4 | apply IsS41.set_5 | apply IsS41.set_6) | exact HI0.out)).1), (cellS41_3 (show IsS41 w0 _ g s0_0 s0_1 s0_2 s0_3 s0_4 s0_5 s0_6 from by repeat (first | (with_reducible first | exact HI0.out | apply IsS41.alloc | apply IsS41.drewN | apply IsS41.drew | apply IsS41.set_0 | apply IsS41.set_1 | apply IsS41.set_2 | apply IsS41.set_3 | apply IsS41.set_4 | apply IsS41.set_5 | apply IsS41.set_6) | exact HI0.out)).1), (cellS41_4 (show IsS41 w0 _ g s0_0 s0_1 s0_2 s0_3 s0_4 s0_5 s0_6 from by repeat (first | (with_reducible first | exact HI0.out | apply IsS41.alloc | apply IsS41.drewN | apply IsS41.drew | apply IsS41.set_0 | apply IsS41.set_1 | apply IsS41.set_2 | apply IsS41.set_3 | apply IsS41.set_4 | apply IsS41.set_5 | apply IsS41.set_6) | exact HI0.out)).1), (cellS41_5 (show IsS41 w0 _ g s0_0 s0_1 s0_2 s0_3 s0_4 s0_5 s0_6 from by repeat (first | (with_reducible first | exact HI0.out | apply IsS41.alloc | apply IsS41.drewN | apply IsS41.drew | apply IsS41.set_0 | apply IsS41.set_1 | apply IsS41.set_2 | apply IsS41.set_3 | apply IsS41.set_4 | apply IsS41.set_5 | apply IsS41.set_6) | exact HI0.out)).1), (cellS41_6 (show IsS41 w0 _ g s0_0 s0_1 s0_2 s0_3 s0_4 s0_5 s0_6 from by repeat (first | (with_reducible first | exact HI0.out | apply IsS41.alloc | apply IsS41.drewN | apply IsS41.drew | apply IsS41.set_0 | apply IsS41.set_1 | apply IsS41.set_2 | apply IsS41.set_3 | apply IsS41.set_4 | apply IsS41.set_5 | apply IsS41.set_6) | exact HI0.out)).1)⟩ (fun hHeld => ?_); refine with_tabW intrusionref09_Reader_check.tab1 intrusionref09_Reader_check.bits1 (fun HT_ HW_ => ?_)
 generalize w.drew = w10 at HI0 HK HB hHeld ⊢
 refine kP 0 9 #[I, O, O, O, O, O, O, O, O, O, O, O, O, O, O, O, O, O, O, O, O, O, O, O, O, O, O, O, O] ?_ (any_of HT_.out (by kernel_rfl))
 refine kP 1 10 #[I, I, O, O, O, O, O, O, O, O, O, O, O, O, O, O, O, O, O, O, O, O, O, O, O, O, O, O, O] ?_ (any_of HT_.out (by kernel_rfl))
 refine kP 2 11 #[I, I, I, O, O, O, O, O, O, O, O, O, O, O, O, O, O, O, O, O, O, O, O, O, O, O, O, O, O] ?_ (any_of HT_.out (by kernel_rfl))
 refine kP 4 13 #[I, I, I, O, I, O, O, O, O, O, O, O, O, O, O, O, O, O, O, O, O, O, O, O, O, O, O, O, O] ?_ (any_of HT_.out (by kernel_rfl))
 refine kP 5 14 #[I, I, I, O, I, I, O, O, O, O, O, O, O, O, O, O, O, O, O, O, O, O, O, O, O, O, O, O, O] ?_ (any_of HT_.out (by kernel_rfl))
 refine kP 6 15 #[I, I, I, O, I, I, I, O, O, O, O, O, O, O, O, O, O, O, O, O, O, O, O, O, O, O, O, O, O] ?_ (any_of HT_.out (by kernel_rfl))
 refine kP 8 17 #[I, I, I, O, I, I, I, O, I, O, O, O, O, O, O, O, O, O, O, O, O, O, O, O, O, O, O, O, O] ?_ (any_of HT_.out (by kernel_rfl))
 refine kP 9 18 #[I, I, I, O, I, I, I, O, I, I, O, O, O, O, O, O, O, O, O, O, O, O, O, O, O, O, O, O, O] ?_ (any_of HT_.out (by kernel_rfl))
 refine kP 10 19 #[I, I, I, O, I, I, I, O, I, I, I, O, O, O, O, O, O, O, O, O, O, O, O, O, O, O, O, O, O] ?_ (any_of HT_.out (by kernel_rfl))
 refine kP 13 22 #[I, I, I, O, I, I, I, O, I, I, I, O, O, I, O, O, O, O, O, O, O, O, O, O, O, O, O, O, O] ?_ (any_of HT_.out (by kernel_rfl))
 refine kP 14 23 #[I, I, I, O, I, I, I, O, I, I, I, O, O, I, I, O, O, O, O, O, O, O, O, O, O, O, O, O, O] ?_ (any_of HT_.out (by kernel_rfl))
 refine kP 15 24 #[I, I, I, O, I, I, I, O, I, I, I, O, O, I, I, I, O, O, O, O, O, O, O, O, O, O, O, O, O] ?_ (any_of HT_.out (by kernel_rfl))
 refine kP 17 26 #[I, I, I, O, I, I, I, O, I, I, I, O, O, I, I, I, O, I, O, O, O, O, O, O, O, O, O, O, O] ?_ (any_of HT_.out (by kernel_rfl))
 refine kP 18 27 #[I, I, I, O, I, I, I, O, I, I, I, O, O, I, I, I, O, I, I, O, O, O, O, O, O, O, O, O, O] ?_ (any_of HT_.out (by kernel_rfl))
 refine kP 19 28 #[I, I, I, O, I, I, I, O, I, I, I, O, O, I, I, I, O, I, I, I, O, O, O, O, O, O, O, O, O] ?_ (any_of HT_.out (by kernel_rfl))
 refine kP 22 31 #[I, I, I, O, I, I, I, O, I, I, I, O, O, I, I, I, O, I, I, I, O, O, I, O, O, O, O, O, O] ?_ (any_of HT_.out (by kernel_rfl))
 refine kP 23 32 #[I, I, I, O, I, I, I, O, I, I, I, O, O, I, I, I, O, I, I, I, O, O, I, I, O, O, O, O, O] ?_ (any_of HT_.out (by kernel_rfl))
 refine kP 24 33 #[I, I, I, O, I, I, I, O, I, I, I, O, O, I, I, I, O, I, I, I, O, O, I, I, I, O, O, O, O] ?_ (any_of HT_.out (by kernel_rfl))
 refine take_ (i := 3) (N := some 12) (v := ?_) (a' := ?_) #[I, I, I, I, I, I, I, O, I, I, I, O, O, I, I, I, O, I, I, I, O, O, I, I, I, O, O, O, O] rfl rfl (take_ofW HT_.out HW_.out (by kernel_rfl)) (fun _ _ _ h => h) (Or.inl ⟨by rfl, ?_⟩) hHeld ?_ ?_
 rotate_left
 ·rintro w' ⟨s0, s1, s2, s3, s4, s5, s6⟩
  go_simp
  with_reducible rfl
 rotate_left
 ·simp only [Act.put, sA, sZ, sS, i64_w, i32_w]
  rfl
 refine take_ (i := 7) (N := some 16) (v := ?_) (a' := ?_) #[I, I, I, I, I, I, I, I, I, I, I, O, O, I, I, I, O, I, I, I, O, O, I, I, I, O, O, O, O] rfl rfl (take_ofW HT_.out HW_.out (by kernel_rfl)) (fun _ _ _ h => h) (Or.inl ⟨by rfl, ?_⟩) hHeld ?_ ?_
 rotate_left
 ·rintro w' ⟨s0, s1, s2, s3, s4, s5, s6⟩
  go_simp
  with_reducible rfl
 rotate_left
 ·simp only [Act.put, sA, sZ, sS, i64_w, i32_w]
  rfl
 refine take_ (i := 11) (N := some 20) (v := ?_) (a' := ?_) #[I, I, I, I, I, I, I, I, I, I, I, I, O, I, I, I, O, I, I, I, O, O, I, I, I, O, O, O, O] rfl rfl (take_ofW HT_.out HW_.out (by kernel_rfl)) (fun _ _ _ h => h) (Or.inl ⟨by rfl, ?_⟩) hHeld ?_ ?_
 rotate_left
 ·rintro w' ⟨s0, s1, s2, s3, s4, s5, s6⟩
  go_simp
  with_reducible rfl
 rotate_left
 ·simp only [Act.put, sA, sZ, sS, i64_w, i32_w]
  rfl
 refine take_ (i := 16) (N := some 25) (v := ?_) (a' := ?_) #[I, I, I, I, I, I, I, I, I, I, I, I, O, I, I, I, I, I, I, I, O, O, I, I, I, O, O, O, O] rfl rfl (take_ofW HT_.out HW_.out (by kernel_rfl)) (fun _ _ _ h => h) (Or.inl ⟨by rfl, ?_⟩) hHeld ?_ ?_
 rotate_left
 ·rintro w' ⟨s0, s1, s2, s3, s4, s5, s6⟩
  go_simp
  with_reducible rfl
 rotate_left
 ·simp only [Act.put, sA, sZ, sS, i64_w, i32_w]
  rfl
 refine take_ (i := 20) (N := some 29) (v := ?_) (a' := ?_) #[I, I, I, I, I, I, I, I, I, I, I, I, O, I, I, I, I, I, I, I, I, O, I, I, I, O, O, O, O] rfl rfl (take_ofW HT_.out HW_.out (by kernel_rfl)) (fun _ _ _ h => h) (Or.inl ⟨by rfl, ?_⟩) hHeld ?_ ?_
 rotate_left
 ·rintro w' ⟨s0, s1, s2, s3, s4, s5, s6⟩
  go_simp
  with_reducible rfl
 rotate_left
 ·simp only [Act.put, sA, sZ, sS, i64_w, i32_w]
  rfl
 refine kP 21 30 #[I, I, I, I, I, I, I, I, I, I, I, I, O, I, I, I, I, I, I, I, I, I, I, I, I, O, O, O, O] ?_ (any_of HT_.out (by kernel_rfl))
 refine take_ (i := 25) (N := some 34) (v := ?_) (a' := ?_) #[I, I, I, I, I, I, I, I, I, I, I, I, O, I, I, I, I, I, I, I, I, I, I, I, I, I, O, O, O] rfl rfl (take_ofW HT_.out HW_.out (by kernel_rfl)) (fun _ _ _ h => h) (Or.inl ⟨by rfl, ?_⟩) hHeld ?_ ?_
 rotate_left
 ·rintro w' ⟨s0, s1, s2, s3, s4, s5, s6⟩
  go_simp
  with_reducible rfl
 rotate_left
 ·simp only [Act.put, sA, sZ, sS, i64_w, i32_w]
  rfl
 refine one_ (i := 12) (N := some 21) #[I, I, I, I, I, I, I, I, I, I, I, I, I, I, I, I, I, I, I, I, I, I, I, I, I, I, O, O, O] rfl rfl (one_of HT_.out (by kernel_rfl)) (by decide) (fun K hK => ?_)
 refine goes_ Try.func37 (by kernel_rfl) rfl #[.string s0_0, .int .i64 s0_1, .int .i64 4, .bool s0_3] (by rfl) rfl rfl kA ?_
 with_reducible refine (intrusionref09_number.calls k s0_0 s0_1 4 s0_3 t304 _ A2.out).mono ?_
 rintro e w' ⟨rfl, ⟨nd, rfl⟩⟩
 refine ⟨_, rfl, ?_⟩
 refine hK.out _ _ ⟨(cellS41_0 (show IsS41 w0 _ g s0_0 s0_1 s0_2 s0_3 s0_4 s0_5 s0_6 from by repeat (first | (with_reducible first | exact HI0.out | apply IsS41.alloc | apply IsS41.drewN | apply IsS41.drew | apply IsS41.set_0 | apply IsS41.set_1 | apply IsS41.set_2 | apply IsS41.set_3 | apply IsS41.set_4 | apply IsS41.set_5 | apply IsS41.set_6) | exact HI0.out)).1), (cellS41_1 (show IsS41 w0 _ g s0_0 s0_1 s0_2 s0_3 s0_4 s0_5 s0_6 from by repeat (first | (with_reducible first | exact HI0.out | apply IsS41.alloc | apply IsS41.drewN | apply IsS41.drew | apply IsS41.set_0 | apply IsS41.set_1 | apply IsS41.set_2 | apply IsS41.set_3 | apply IsS41.set_4 | apply IsS41.set_5 | apply IsS41.set_6) | exact HI0.out)).1), (cellS41_2 (show IsS41 w0 _ g s0_0 s0_1 s0_2 s0_3 s0_4 s0_5 s0_6 from by repeat (first | (with_reducible first | exact HI0.out | apply IsS41.alloc | apply IsS41.drewN | apply IsS41.drew | apply IsS41.set_0 | apply IsS41.set_1 | apply IsS41.set_2 | apply IsS41.set_3 | apply IsS41.set_4 | apply IsS41.set_5 | apply IsS41.set_6) | exact HI0.out)).1), (cellS41_3 (show IsS41 w0 _ g s0_0 s0_1 s0_2 s0_3 s0_4 s0_5 s0_6 from by repeat (first | (with_reducible first | exact HI0.out | apply IsS41.alloc | apply IsS41.drewN | apply IsS41.drew | apply IsS41.set_0 | apply IsS41.set_1 | apply IsS41.set_2 | apply IsS41.set_3 | apply IsS41.set_4 | apply IsS41.set_5 | apply IsS41.set_6) | exact HI0.out)).1), (cellS41_4 (show IsS41 w0 _ g s0_0 s0_1 s0_2 s0_3 s0_4 s0_5 s0_6 from by repeat (first | (with_reducible first | exact HI0.out | apply IsS41.alloc | apply IsS41.drewN | apply IsS41.drew | apply IsS41.set_0 | apply IsS41.set_1 | apply IsS41.set_2 | apply IsS41.set_3 | apply IsS41.set_4 | apply IsS41.set_5 | apply IsS41.set_6) | exact HI0.out)).1), (cellS41_5 (show IsS41 w0 _ g s0_0 s0_1 s0_2 s0_3 s0_4 s0_5 s0_6 from by repeat (first | (with_reducible first | exact HI0.out | apply IsS41.alloc | apply IsS41.drewN | apply IsS41.drew | apply IsS41.set_0 | apply IsS41.set_1 | apply IsS41.set_2 | apply IsS41.set_3 | apply IsS41.set_4 | apply IsS41.set_5 | apply IsS41.set_6) | exact HI0.out)).1), (cellS41_6 (show IsS41 w0 _ g s0_0 s0_1 s0_2 s0_3 s0_4 s0_5 s0_6 from by repeat (first | (with_reducible first | exact HI0.out | apply IsS41.alloc | apply IsS41.drewN | apply IsS41.drew | apply IsS41.set_0 | apply IsS41.set_1 | apply IsS41.set_2 | apply IsS41.set_3 | apply IsS41.set_4 | apply IsS41.set_5 | apply IsS41.set_6) | exact HI0.out)).1)⟩ (fun hHeld => ?_)
 clear hK K
 refine norm_ (a' := ?_) ?_ ?_
 rotate_left
 ·show Act.put _ (some 21) _ = _
  simp only [Act.put, sA, sZ, sS, i64_w, i32_w]
  rfl
 refine one_ (i := 26) (N := some 35) #[I, I, I, I, I, I, I, I, I, I, I, I, I, I, I, I, I, I, I, I, I, I, I, I, I, I, I, O, O] rfl rfl (one_of HT_.out (by kernel_rfl)) (by decide) (fun K hK => ?_)
 refine goes_ Try.func37 (by kernel_rfl) rfl #[.string s0_0, .int .i64 (wrap64 (s0_1 + 4)), .int .i64 4, .bool s0_3] (by rfl) rfl rfl kA ?_
 with_reducible refine (intrusionref09_number.calls k s0_0 (wrap64 (s0_1 + 4)) 4 s0_3 t305 _ A3.out).mono ?_
 rintro e w' ⟨rfl, ⟨nd, rfl⟩⟩
 refine ⟨_, rfl, ?_⟩
 refine hK.out _ _ ⟨(cellS41_0 (show IsS41 w0 _ g s0_0 s0_1 s0_2 s0_3 s0_4 s0_5 s0_6 from by repeat (first | (with_reducible first | exact HI0.out | apply IsS41.alloc | apply IsS41.drewN | apply IsS41.drew | apply IsS41.set_0 | apply IsS41.set_1 | apply IsS41.set_2 | apply IsS41.set_3 | apply IsS41.set_4 | apply IsS41.set_5 | apply IsS41.set_6) | exact HI0.out)).1), (cellS41_1 (show IsS41 w0 _ g s0_0 s0_1 s0_2 s0_3 s0_4 s0_5 s0_6 from by repeat (first | (with_reducible first | exact HI0.out | apply IsS41.alloc | apply IsS41.drewN | apply IsS41.drew | apply IsS41.set_0 | apply IsS41.set_1 | apply IsS41.set_2 | apply IsS41.set_3 | apply IsS41.set_4 | apply IsS41.set_5 | apply IsS41.set_6) | exact HI0.out)).1), (cellS41_2 (show IsS41 w0 _ g s0_0 s0_1 s0_2 s0_3 s0_4 s0_5 s0_6 from by repeat (first | (with_reducible first | exact HI0.out | apply IsS41.alloc | apply IsS41.drewN | apply IsS41.drew | apply IsS41.set_0 | apply IsS41.set_1 | apply IsS41.set_2 | apply IsS41.set_3 | apply IsS41.set_4 | apply IsS41.set_5 | apply IsS41.set_6) | exact HI0.out)).1), (cellS41_3 (show IsS41 w0 _ g s0_0 s0_1 s0_2 s0_3 s0_4 s0_5 s0_6 from by repeat (first | (with_reducible first | exact HI0.out | apply IsS41.alloc | apply IsS41.drewN | apply IsS41.drew | apply IsS41.set_0 | apply IsS41.set_1 | apply IsS41.set_2 | apply IsS41.set_3 | apply IsS41.set_4 | apply IsS41.set_5 | apply IsS41.set_6) | exact HI0.out)).1), (cellS41_4 (show IsS41 w0 _ g s0_0 s0_1 s0_2 s0_3 s0_4 s0_5 s0_6 from by repeat (first | (with_reducible first | exact HI0.out | apply IsS41.alloc | apply IsS41.drewN | apply IsS41.drew | apply IsS41.set_0 | apply IsS41.set_1 | apply IsS41.set_2 | apply IsS41.set_3 | apply IsS41.set_4 | apply IsS41.set_5 | apply IsS41.set_6) | exact HI0.out)).1), (cellS41_5 (show IsS41 w0 _ g s0_0 s0_1 s0_2 s0_3 s0_4 s0_5 s0_6 from by repeat (first | (with_reducible first | exact HI0.out | apply IsS41.alloc | apply IsS41.drewN | apply IsS41.drew | apply IsS41.set_0 | apply IsS41.set_1 | apply IsS41.set_2 | apply IsS41.set_3 | apply IsS41.set_4 | apply IsS41.set_5 | apply IsS41.set_6) | exact HI0.out)).1), (cellS41_6 (show IsS41 w0 _ g s0_0 s0_1 s0_2 s0_3 s0_4 s0_5 s0_6 from by repeat (first | (with_reducible first | exact HI0.out | apply IsS41.alloc | apply IsS41.drewN | apply IsS41.drew | apply IsS41.set_0 | apply IsS41.set_1 | apply IsS41.set_2 | apply IsS41.set_3 | apply IsS41.set_4 | apply IsS41.set_5 | apply IsS41.set_6) | exact HI0.out)).1)⟩ (fun hHeld => ?_)
 clear hK K
 refine norm_ (a' := ?_) ?_ ?_
 rotate_left
 ·show Act.put _ (some 35) _ = _
  simp only [Act.put, sA, sZ, sS, i64_w, i32_w]
  rfl
 refine kP 27 4 #[I, I, I, I, I, I, I, I, I, I, I, I, I, I, I, I, I, I, I, I, I, I, I, I, I, I, I, I, O] ?_ (any_of HT_.out (by kernel_rfl))
 refine kP 28 5 #[I, I, I, I, I, I, I, I, I, I, I, I, I, I, I, I, I, I, I, I, I, I, I, I, I, I, I, I, I] ?_ (any_of HT_.out (by kernel_rfl))
 refine done_ (done_of HT_.out (by kernel_rfl)) ?_
 try go_wp2
 (try ((repeat rw [World.drewN_drewN]); rw [drewN_self w10]; generalize hq_ : World.drewN w10 _ = w10; have n0_ : Aside0 (IsS41 w0 w10 g s0_0 s0_1 s0_2 s0_3 s0_4 s0_5 s0_6) := ⟨by rw [← hq_]; exact (by repeat (first | (with_reducible first | exact HI0.out | apply IsS41.alloc | apply IsS41.drewN | apply IsS41.drew | apply IsS41.set_0 | apply IsS41.set_1 | apply IsS41.set_2 | apply IsS41.set_3 | apply IsS41.set_4 | apply IsS41.set_5 | apply IsS41.set_6) | exact HI0.out))⟩; have n1_ : Aside0 (KeepBut w w10 g none) := ⟨by rw [← hq_]; exact (by repeat (first | (with_reducible first | exact HK.out | apply KeepBut.set_ | apply keep_drewN | apply keep_drew | apply keep_alloc) | exact HK.out))⟩; have n2_ : Aside0 (Below w0.heap.size w0 w10) := ⟨by rw [← hq_]; exact (kB1 HB.out (IsS41.ge HI0.out))⟩; clear HI0 HK HB hq_; have HI0 := n0_; have HK := n1_; have HB := n2_; clear n0_ n1_ n2_))
 replace HI0 := As (IsS41.drew HI0.out)
 replace HK := As (keep_drew HK.out)
 replace HB := As (below_drew1 HB.out)
 refine start_ (n := 30) (S := fun w' => w'.cell? ⟨g, 0, none⟩ = some (.string s0_0) ∧ w'.cell? ⟨g, 1, none⟩ = some (.int .i64 s0_1) ∧ w'.cell? ⟨g, 2, none⟩ = some (.bool s0_2) ∧ w'.cell? ⟨g, 3, none⟩ = some (.bool s0_3) ∧ w'.cell? ⟨g, 4, none⟩ = some (.int .i64 s0_4) ∧ w'.cell? ⟨g, 5, none⟩ = some (.int .i64 s0_5) ∧ w'.cell? ⟨g, 6, none⟩ = some (.bool s0_6)) (ds := []) #[O, O, O, O, O, O, O, O, O, O, O, O, O, O, O, O, O, O, O, O, O, O, O, O, O, O, O, O, O, O] (by kernel_rfl) rfl rfl ⟨(cellS41_0 (show IsS41 w0 _ g s0_0 s0_1 s0_2 s0_3 s0_4 s0_5 s0_6 from by repeat (first | (with_reducible first | exact HI0.out | apply IsS41.alloc | apply IsS41.drewN | apply IsS41.drew | apply IsS41.set_0 | apply IsS41.set_1 | apply IsS41.set_2 | apply IsS41.set_3 | apply IsS41.set_4 | apply IsS41.set_5 | apply IsS41.set_6) | exact HI0.out)).1), (cellS41_1 (show IsS41 w0 _ g s0_0 s0_1 s0_2 s0_3 s0_4 s0_5 s0_6 from by repeat (first | (with_reducible first | exact HI0.out | apply IsS41.alloc | apply IsS41.drewN | apply IsS41.drew | apply IsS41.set_0 | apply IsS41.set_1 | apply IsS41.set_2 | apply IsS41.set_3 | apply IsS41.set_4 | apply IsS41.set_5 | apply IsS41.set_6) | exact HI0.out)).1), (cellS41_2 (show IsS41 w0 _ g s0_0 s0_1 s0_2 s0_3 s0_4 s0_5 s0_6 from by repeat (first | (with_reducible first | exact HI0.out | apply IsS41.alloc | apply IsS41.drewN | apply IsS41.drew | apply IsS41.set_0 | apply IsS41.set_1 | apply IsS41.set_2 | apply IsS41.set_3 | apply IsS41.set_4 | apply IsS41.set_5 | apply IsS41.set_6) | exact HI0.out)).1), (cellS41_3 (show IsS41 w0 _ g s0_0 s0_1 s0_2 s0_3 s0_4 s0_5 s0_6 from by repeat (first | (with_reducible first | exact HI0.out | apply IsS41.alloc | apply IsS41.drewN | apply IsS41.drew | apply IsS41.set_0 | apply IsS41.set_1 | apply IsS41.set_2 | apply IsS41.set_3 | apply IsS41.set_4 | apply IsS41.set_5 | apply IsS41.set_6) | exact HI0.out)).1), (cellS41_4 (show IsS41 w0 _ g s0_0 s0_1 s0_2 s0_3 s0_4 s0_5 s0_6 from by repeat (first | (with_reducible first | exact HI0.out | apply IsS41.alloc | apply IsS41.drewN | apply IsS41.drew | apply IsS41.set_0 | apply IsS41.set_1 | apply IsS41.set_2 | apply IsS41.set_3 | apply IsS41.set_4 | apply IsS41.set_5 | apply IsS41.set_6) | exact HI0.out)).1), (cellS41_5 (show IsS41 w0 _ g s0_0 s0_1 s0_2 s0_3 s0_4 s0_5 s0_6 from by repeat (first | (with_reducible first | exact HI0.out | apply IsS41.alloc | apply IsS41.drewN | apply IsS41.drew | apply IsS41.set_0 | apply IsS41.set_1 | apply IsS41.set_2 | apply IsS41.set_3 | apply IsS41.set_4 | apply IsS41.set_5 | apply IsS41.set_6) | exact HI0.out)).1), (cellS41_6 (show IsS41 w0 _ g s0_0 s0_1 s0_2 s0_3 s0_4 s0_5 s0_6 from by repeat (first | (with_reducible first | exact HI0.out | apply IsS41.alloc | apply IsS41.drewN | apply IsS41.drew | apply IsS41.set_0 | apply IsS41.set_1 | apply IsS41.set_2 | apply IsS41.set_3 | apply IsS41.set_4 | apply IsS41.set_5 | apply IsS41.set_6) | exact HI0.out)).1)⟩ (fun hHeld => ?_); refine with_tabW intrusionref09_Reader_check.tab2 intrusionref09_Reader_check.bits2 (fun HT_ HW_ => ?_)
 generalize w10.drew = w11 at HI0 HK HB hHeld ⊢
 refine kP 0 36 #[I, O, O, O, O, O, O, O, O, O, O, O, O, O, O, O, O, O, O, O, O, O, O, O, O, O, O, O, O, O] ?_ (any_of HT_.out (by kernel_rfl))
 refine kP 1 37 #[I, I, O, O, O, O, O, O, O, O, O, O, O, O, O, O, O, O, O, O, O, O, O, O, O, O, O, O, O, O] ?_ (any_of HT_.out (by kernel_rfl))
 refine kP 2 38 #[I, I, I, O, O, O, O, O, O, O, O, O, O, O, O, O, O, O, O, O, O, O, O, O, O, O, O, O, O, O] ?_ (any_of HT_.out (by kernel_rfl))
 refine kP 4 40 #[I, I, I, O, I, O, O, O, O, O, O, O, O, O, O, O, O, O, O, O, O, O, O, O, O, O, O, O, O, O] ?_ (any_of HT_.out (by kernel_rfl))
 refine kP 5 41 #[I, I, I, O, I, I, O, O, O, O, O, O, O, O, O, O, O, O, O, O, O, O, O, O, O, O, O, O, O, O] ?_ (any_of HT_.out (by kernel_rfl))
 refine kP 6 42 #[I, I, I, O, I, I, I, O, O, O, O, O, O, O, O, O, O, O, O, O, O, O, O, O, O, O, O, O, O, O] ?_ (any_of HT_.out (by kernel_rfl))
 refine kP 9 45 #[I, I, I, O, I, I, I, O, O, I, O, O, O, O, O, O, O, O, O, O, O, O, O, O, O, O, O, O, O, O] ?_ (any_of HT_.out (by kernel_rfl))
 refine kP 10 46 #[I, I, I, O, I, I, I, O, O, I, I, O, O, O, O, O, O, O, O, O, O, O, O, O, O, O, O, O, O, O] ?_ (any_of HT_.out (by kernel_rfl))
 refine kP 11 47 #[I, I, I, O, I, I, I, O, O, I, I, I, O, O, O, O, O, O, O, O, O, O, O, O, O, O, O, O, O, O] ?_ (any_of HT_.out (by kernel_rfl))
 refine kP 14 50 #[I, I, I, O, I, I, I, O, O, I, I, I, O, O, I, O, O, O, O, O, O, O, O, O, O, O, O, O, O, O] ?_ (any_of HT_.out (by kernel_rfl))
 refine kP 15 51 #[I, I, I, O, I, I, I, O, O, I, I, I, O, O, I, I, O, O, O, O, O, O, O, O, O, O, O, O, O, O] ?_ (any_of HT_.out (by kernel_rfl))
 refine kP 16 52 #[I, I, I, O, I, I, I, O, O, I, I, I, O, O, I, I, I, O, O, O, O, O, O, O, O, O, O, O, O, O] ?_ (any_of HT_.out (by kernel_rfl))
 refine kP 18 54 #[I, I, I, O, I, I, I, O, O, I, I, I, O, O, I, I, I, O, I, O, O, O, O, O, O, O, O, O, O, O] ?_ (any_of HT_.out (by kernel_rfl))
 refine kP 19 55 #[I, I, I, O, I, I, I, O, O, I, I, I, O, O, I, I, I, O, I, I, O, O, O, O, O, O, O, O, O, O] ?_ (any_of HT_.out (by kernel_rfl))
 refine kP 20 56 #[I, I, I, O, I, I, I, O, O, I, I, I, O, O, I, I, I, O, I, I, I, O, O, O, O, O, O, O, O, O] ?_ (any_of HT_.out (by kernel_rfl))
 refine kP 23 59 #[I, I, I, O, I, I, I, O, O, I, I, I, O, O, I, I, I, O, I, I, I, O, O, I, O, O, O, O, O, O] ?_ (any_of HT_.out (by kernel_rfl))
 refine kP 24 60 #[I, I, I, O, I, I, I, O, O, I, I, I, O, O, I, I, I, O, I, I, I, O, O, I, I, O, O, O, O, O] ?_ (any_of HT_.out (by kernel_rfl))
 refine kP 25 61 #[I, I, I, O, I, I, I, O, O, I, I, I, O, O, I, I, I, O, I, I, I, O, O, I, I, I, O, O, O, O] ?_ (any_of HT_.out (by kernel_rfl))
 refine take_ (i := 3) (N := some 39) (v := ?_) (a' := ?_) #[I, I, I, I, I, I, I, O, O, I, I, I, O, O, I, I, I, O, I, I, I, O, O, I, I, I, O, O, O, O] rfl rfl (take_ofW HT_.out HW_.out (by kernel_rfl)) (fun _ _ _ h => h) (Or.inl ⟨by rfl, ?_⟩) hHeld ?_ ?_
 rotate_left
 ·rintro w' ⟨s0, s1, s2, s3, s4, s5, s6⟩
  go_simp
  with_reducible rfl
 rotate_left
 ·simp only [Act.put, sA, sZ, sS, i64_w, i32_w]
  rfl
 refine take_ (i := 7) (N := some 43) (v := ?_) (a' := ?_) #[I, I, I, I, I, I, I, I, O, I, I, I, O, O, I, I, I, O, I, I, I, O, O, I, I, I, O, O, O, O] rfl rfl (take_ofW HT_.out HW_.out (by kernel_rfl)) (fun _ _ _ h => h) (Or.inl ⟨by rfl, ?_⟩) hHeld ?_ ?_
 rotate_left
 ·rintro w' ⟨s0, s1, s2, s3, s4, s5, s6⟩
  go_simp
  with_reducible rfl
 rotate_left
 ·simp only [Act.put, sA, sZ, sS, i64_w, i32_w]
  rfl
 refine kP 8 44 #[I, I, I, I, I, I, I, I, I, I, I, I, O, O, I, I, I, O, I, I, I, O, O, I, I, I, O, O, O, O] ?_ (any_of HT_.out (by kernel_rfl))
 refine take_ (i := 12) (N := some 48) (v := ?_) (a' := ?_) #[I, I, I, I, I, I, I, I, I, I, I, I, I, O, I, I, I, O, I, I, I, O, O, I, I, I, O, O, O, O] rfl rfl (take_ofW HT_.out HW_.out (by kernel_rfl)) (fun _ _ _ h => h) (Or.inl ⟨by rfl, ?_⟩) hHeld ?_ ?_
 rotate_left
 ·rintro w' ⟨s0, s1, s2, s3, s4, s5, s6⟩
  go_simp
  with_reducible rfl
 rotate_left
 ·simp only [Act.put, sA, sZ, sS, i64_w, i32_w]
  rfl
 refine take_ (i := 17) (N := some 53) (v := ?_) (a' := ?_) #[I, I, I, I, I, I, I, I, I, I, I, I, I, O, I, I, I, I, I, I, I, O, O, I, I, I, O, O, O, O] rfl rfl (take_ofW HT_.out HW_.out (by kernel_rfl)) (fun _ _ _ h => h) (Or.inl ⟨by rfl, ?_⟩) hHeld ?_ ?_
 rotate_left
 ·rintro w' ⟨s0, s1, s2, s3, s4, s5, s6⟩
  go_simp
  with_reducible rfl
 rotate_left
 ·simp only [Act.put, sA, sZ, sS, i64_w, i32_w]
  rfl
 refine take_ (i := 21) (N := some 57) (v := ?_) (a' := ?_) #[I, I, I, I, I, I, I, I, I, I, I, I, I, O, I, I, I, I, I, I, I, I, O, I, I, I, O, O, O, O] rfl rfl (take_ofW HT_.out HW_.out (by kernel_rfl)) (fun _ _ _ h => h) (Or.inl ⟨by rfl, ?_⟩) hHeld ?_ ?_
 rotate_left
 ·rintro w' ⟨s0, s1, s2, s3, s4, s5, s6⟩
  go_simp
  with_reducible rfl
 rotate_left
 ·simp only [Act.put, sA, sZ, sS, i64_w, i32_w]
  rfl
 refine kP 22 58 #[I, I, I, I, I, I, I, I, I, I, I, I, I, O, I, I, I, I, I, I, I, I, I, I, I, I, O, O, O, O] ?_ (any_of HT_.out (by kernel_rfl))
 refine take_ (i := 26) (N := some 62) (v := ?_) (a' := ?_) #[I, I, I, I, I, I, I, I, I, I, I, I, I, O, I, I, I, I, I, I, I, I, I, I, I, I, I, O, O, O] rfl rfl (take_ofW HT_.out HW_.out (by kernel_rfl)) (fun _ _ _ h => h) (Or.inl ⟨by rfl, ?_⟩) hHeld ?_ ?_
 rotate_left
 ·rintro w' ⟨s0, s1, s2, s3, s4, s5, s6⟩
  go_simp
  with_reducible rfl
 rotate_left
 ·simp only [Act.put, sA, sZ, sS, i64_w, i32_w]
  rfl
 refine one_ (i := 13) (N := some 49) #[I, I, I, I, I, I, I, I, I, I, I, I, I, I, I, I, I, I, I, I, I, I, I, I, I, I, I, O, O, O] rfl rfl (one_of HT_.out (by kernel_rfl)) (by decide) (fun K hK => ?_)
 refine goes_ Try.func37 (by kernel_rfl) rfl #[.string s0_0, .int .i64 (wrap64 (s0_1 + 8)), .int .i64 4, .bool s0_3] (by rfl) rfl rfl kA ?_
 with_reducible refine (intrusionref09_number.calls k s0_0 (wrap64 (s0_1 + 8)) 4 s0_3 t306 _ A4.out).mono ?_
 rintro e w' ⟨rfl, ⟨nd, rfl⟩⟩
 refine ⟨_, rfl, ?_⟩
 refine hK.out _ _ ⟨(cellS41_0 (show IsS41 w0 _ g s0_0 s0_1 s0_2 s0_3 s0_4 s0_5 s0_6 from by repeat (first | (with_reducible first | exact HI0.out | apply IsS41.alloc | apply IsS41.drewN | apply IsS41.drew | apply IsS41.set_0 | apply IsS41.set_1 | apply IsS41.set_2 | apply IsS41.set_3 | apply IsS41.set_4 | apply IsS41.set_5 | apply IsS41.set_6) | exact HI0.out)).1), (cellS41_1 (show IsS41 w0 _ g s0_0 s0_1 s0_2 s0_3 s0_4 s0_5 s0_6 from by repeat (first | (with_reducible first | exact HI0.out | apply IsS41.alloc | apply IsS41.drewN | apply IsS41.drew | apply IsS41.set_0 | apply IsS41.set_1 | apply IsS41.set_2 | apply IsS41.set_3 | apply IsS41.set_4 | apply IsS41.set_5 | apply IsS41.set_6) | exact HI0.out)).1), (cellS41_2 (show IsS41 w0 _ g s0_0 s0_1 s0_2 s0_3 s0_4 s0_5 s0_6 from by repeat (first | (with_reducible first | exact HI0.out | apply IsS41.alloc | apply IsS41.drewN | apply IsS41.drew | apply IsS41.set_0 | apply IsS41.set_1 | apply IsS41.set_2 | apply IsS41.set_3 | apply IsS41.set_4 | apply IsS41.set_5 | apply IsS41.set_6) | exact HI0.out)).1), (cellS41_3 (show IsS41 w0 _ g s0_0 s0_1 s0_2 s0_3 s0_4 s0_5 s0_6 from by repeat (first | (with_reducible first | exact HI0.out | apply IsS41.alloc | apply IsS41.drewN | apply IsS41.drew | apply IsS41.set_0 | apply IsS41.set_1 | apply IsS41.set_2 | apply IsS41.set_3 | apply IsS41.set_4 | apply IsS41.set_5 | apply IsS41.set_6) | exact HI0.out)).1), (cellS41_4 (show IsS41 w0 _ g s0_0 s0_1 s0_2 s0_3 s0_4 s0_5 s0_6 from by repeat (first | (with_reducible first | exact HI0.out | apply IsS41.alloc | apply IsS41.drewN | apply IsS41.drew | apply IsS41.set_0 | apply IsS41.set_1 | apply IsS41.set_2 | apply IsS41.set_3 | apply IsS41.set_4 | apply IsS41.set_5 | apply IsS41.set_6) | exact HI0.out)).1), (cellS41_5 (show IsS41 w0 _ g s0_0 s0_1 s0_2 s0_3 s0_4 s0_5 s0_6 from by repeat (first | (with_reducible first | exact HI0.out | apply IsS41.alloc | apply IsS41.drewN | apply IsS41.drew | apply IsS41.set_0 | apply IsS41.set_1 | apply IsS41.set_2 | apply IsS41.set_3 | apply IsS41.set_4 | apply IsS41.set_5 | apply IsS41.set_6) | exact HI0.out)).1), (cellS41_6 (show IsS41 w0 _ g s0_0 s0_1 s0_2 s0_3 s0_4 s0_5 s0_6 from by repeat (first | (with_reducible first | exact HI0.out | apply IsS41.alloc | apply IsS41.drewN | apply IsS41.drew | apply IsS41.set_0 | apply IsS41.set_1 | apply IsS41.set_2 | apply IsS41.set_3 | apply IsS41.set_4 | apply IsS41.set_5 | apply IsS41.set_6) | exact HI0.out)).1)⟩ (fun hHeld => ?_)
 clear hK K
 refine norm_ (a' := ?_) ?_ ?_
 rotate_left
 ·show Act.put _ (some 49) _ = _
  simp only [Act.put, sA, sZ, sS, i64_w, i32_w]
  rfl
 refine one_ (i := 27) (N := some 63) #[I, I, I, I, I, I, I, I, I, I, I, I, I, I, I, I, I, I, I, I, I, I, I, I, I, I, I, I, O, O] rfl rfl (one_of HT_.out (by kernel_rfl)) (by decide) (fun K hK => ?_)
 refine goes_ Try.func37 (by kernel_rfl) rfl #[.string s0_0, .int .i64 (wrap64 (s0_1 + 12)), .int .i64 4, .bool s0_3] (by rfl) rfl rfl kA ?_
 with_reducible refine (intrusionref09_number.calls k s0_0 (wrap64 (s0_1 + 12)) 4 s0_3 t307 _ A5.out).mono ?_
 rintro e w' ⟨rfl, ⟨nd, rfl⟩⟩
 refine ⟨_, rfl, ?_⟩
 refine hK.out _ _ ⟨(cellS41_0 (show IsS41 w0 _ g s0_0 s0_1 s0_2 s0_3 s0_4 s0_5 s0_6 from by repeat (first | (with_reducible first | exact HI0.out | apply IsS41.alloc | apply IsS41.drewN | apply IsS41.drew | apply IsS41.set_0 | apply IsS41.set_1 | apply IsS41.set_2 | apply IsS41.set_3 | apply IsS41.set_4 | apply IsS41.set_5 | apply IsS41.set_6) | exact HI0.out)).1), (cellS41_1 (show IsS41 w0 _ g s0_0 s0_1 s0_2 s0_3 s0_4 s0_5 s0_6 from by repeat (first | (with_reducible first | exact HI0.out | apply IsS41.alloc | apply IsS41.drewN | apply IsS41.drew | apply IsS41.set_0 | apply IsS41.set_1 | apply IsS41.set_2 | apply IsS41.set_3 | apply IsS41.set_4 | apply IsS41.set_5 | apply IsS41.set_6) | exact HI0.out)).1), (cellS41_2 (show IsS41 w0 _ g s0_0 s0_1 s0_2 s0_3 s0_4 s0_5 s0_6 from by repeat (first | (with_reducible first | exact HI0.out | apply IsS41.alloc | apply IsS41.drewN | apply IsS41.drew | apply IsS41.set_0 | apply IsS41.set_1 | apply IsS41.set_2 | apply IsS41.set_3 | apply IsS41.set_4 | apply IsS41.set_5 | apply IsS41.set_6) | exact HI0.out)).1), (cellS41_3 (show IsS41 w0 _ g s0_0 s0_1 s0_2 s0_3 s0_4 s0_5 s0_6 from by repeat (first | (with_reducible first | exact HI0.out | apply IsS41.alloc | apply IsS41.drewN | apply IsS41.drew | apply IsS41.set_0 | apply IsS41.set_1 | apply IsS41.set_2 | apply IsS41.set_3 | apply IsS41.set_4 | apply IsS41.set_5 | apply IsS41.set_6) | exact HI0.out)).1), (cellS41_4 (show IsS41 w0 _ g s0_0 s0_1 s0_2 s0_3 s0_4 s0_5 s0_6 from by repeat (first | (with_reducible first | exact HI0.out | apply IsS41.alloc | apply IsS41.drewN | apply IsS41.drew | apply IsS41.set_0 | apply IsS41.set_1 | apply IsS41.set_2 | apply IsS41.set_3 | apply IsS41.set_4 | apply IsS41.set_5 | apply IsS41.set_6) | exact HI0.out)).1), (cellS41_5 (show IsS41 w0 _ g s0_0 s0_1 s0_2 s0_3 s0_4 s0_5 s0_6 from by repeat (first | (with_reducible first | exact HI0.out | apply IsS41.alloc | apply IsS41.drewN | apply IsS41.drew | apply IsS41.set_0 | apply IsS41.set_1 | apply IsS41.set_2 | apply IsS41.set_3 | apply IsS41.set_4 | apply IsS41.set_5 | apply IsS41.set_6) | exact HI0.out)).1), (cellS41_6 (show IsS41 w0 _ g s0_0 s0_1 s0_2 s0_3 s0_4 s0_5 s0_6 from by repeat (first | (with_reducible first | exact HI0.out | apply IsS41.alloc | apply IsS41.drewN | apply IsS41.drew | apply IsS41.set_0 | apply IsS41.set_1 | apply IsS41.set_2 | apply IsS41.set_3 | apply IsS41.set_4 | apply IsS41.set_5 | apply IsS41.set_6) | exact HI0.out)).1)⟩ (fun hHeld => ?_)
 clear hK K
 refine norm_ (a' := ?_) ?_ ?_
 rotate_left
 ·show Act.put _ (some 63) _ = _
  simp only [Act.put, sA, sZ, sS, i64_w, i32_w]
  rfl
 refine kP 28 6 #[I, I, I, I, I, I, I, I, I, I, I, I, I, I, I, I, I, I, I, I, I, I, I, I, I, I, I, I, I, O] ?_ (any_of HT_.out (by kernel_rfl))
 refine kP 29 7 #[I, I, I, I, I, I, I, I, I, I, I, I, I, I, I, I, I, I, I, I, I, I, I, I, I, I, I, I, I, I] ?_ (any_of HT_.out (by kernel_rfl))
 refine done_ (done_of HT_.out (by kernel_rfl)) ?_
 go_upto_region 6 with (fail)
 go_cut [72] (fun v72 wc => ∃ (kq : Nat) (x72_8 : Bool), v72 = .bool x72_8 ∧ Aside0 (intrusionref09_Reader_check.j0 kq t306 t307 (wrap64 ((wrap64 (t304 * 1000)) + (wrap64 (Int.tdiv t305 1000)))) x72_8 s0_0 s0_1 s0_2 s0_3 s0_4 s0_5 s0_6 = some (r1, r2, r3, r4, r5, r6, r7, r8, r9)) ∧ Aside0 (kq ≤ k) ∧ Aside0 (IsS41 w0 wc g s0_0 s0_1 s0_2 s0_3 s0_4 s0_5 s0_6) ∧ Aside0 (KeepBut w wc g none) ∧ Aside0 (Below w0.heap.size w0 wc))
 case first =>
  have H := HC9.out
  clear HC9
  by_cases c12 : s0_4 = 2000
  ·rw [if_pos c12] at H
   have c12b0 : (s0_4 == 2000) = true := beq_iff_eq.mpr c12
   have c12b1 : (s0_4 != 2000) = false := bne_eq_false_iff_eq.mpr c12
   clear c12
   (first | rw [c12b0] | (simp only [i64_w, i32_w]; rw [c12b0]) | skip)
   have H' := As H
   clear H
   obtain ⟨HGz13, hgz13⟩ := HI0.out
   have hcz13_0 := cellS41_0 HGz13
   have hcz13_1 := cellS41_1 HGz13
   have hcz13_2 := cellS41_2 HGz13
   have hcz13_3 := cellS41_3 HGz13
   have hcz13_4 := cellS41_4 HGz13
   have hcz13_5 := cellS41_5 HGz13
   have hcz13_6 := cellS41_6 HGz13
   have hfz13_0 := blk_frozen HGz13 0
   have hfz13_1 := blk_frozen HGz13 1
   have hfz13_2 := blk_frozen HGz13 2
   have hfz13_3 := blk_frozen HGz13 3
   have hfz13_4 := blk_frozen HGz13 4
   have hfz13_5 := blk_frozen HGz13 5
   have hfz13_6 := blk_frozen HGz13 6
   clear HGz13 hgz13
   go_wp2
   go_meet
   case rel => exact ⟨_, (true), kS, H', ⟨by first | omega | exact Nat.le_refl _⟩, ⟨by repeat (first | (with_reducible first | exact HI0.out | apply IsS41.alloc | apply IsS41.drewN | apply IsS41.drew | apply IsS41.set_0 | apply IsS41.set_1 | apply IsS41.set_2 | apply IsS41.set_3 | apply IsS41.set_4 | apply IsS41.set_5 | apply IsS41.set_6) | exact HI0.out)⟩, ⟨by repeat (first | (with_reducible first | exact HK.out | apply KeepBut.set_ | apply keep_drewN | apply keep_drew | apply keep_alloc) | exact HK.out)⟩, ⟨kB1 HB.out (IsS41.ge HI0.out)⟩⟩
  rw [if_neg c12] at H
  have c12b0 : (s0_4 == 2000) = false := beq_eq_false_iff_ne.mpr c12
  have c12b1 : (s0_4 != 2000) = true := bne_iff_ne.mpr c12
  (first | rw [c12b0] | (simp only [i64_w, i32_w]; rw [c12b0]) | skip)
  by_cases c14 : t306 > 4096
  ·rw [if_pos c14] at H
   have c14b0 : decide (4096 < t306) = true := decide_eq_true c14
   clear c14
   have H' := As H
   clear H
   obtain ⟨HGz15, hgz15⟩ := HI0.out
   have hcz15_0 := cellS41_0 HGz15
   have hcz15_1 := cellS41_1 HGz15
   have hcz15_2 := cellS41_2 HGz15
   have hcz15_3 := cellS41_3 HGz15
   have hcz15_4 := cellS41_4 HGz15
   have hcz15_5 := cellS41_5 HGz15
   have hcz15_6 := cellS41_6 HGz15
   have hfz15_0 := blk_frozen HGz15 0
   have hfz15_1 := blk_frozen HGz15 1
   have hfz15_2 := blk_frozen HGz15 2
   have hfz15_3 := blk_frozen HGz15 3
   have hfz15_4 := blk_frozen HGz15 4
   have hfz15_5 := blk_frozen HGz15 5
   have hfz15_6 := blk_frozen HGz15 6
   clear HGz15 hgz15
   go_wp2
   go_meet
   case rel => exact ⟨_, (true), kS, H', ⟨by first | omega | exact Nat.le_refl _⟩, ⟨by repeat (first | (with_reducible first | exact HI0.out | apply IsS41.alloc | apply IsS41.drewN | apply IsS41.drew | apply IsS41.set_0 | apply IsS41.set_1 | apply IsS41.set_2 | apply IsS41.set_3 | apply IsS41.set_4 | apply IsS41.set_5 | apply IsS41.set_6) | exact HI0.out)⟩, ⟨by repeat (first | (with_reducible first | exact HK.out | apply KeepBut.set_ | apply keep_drewN | apply keep_drew | apply keep_alloc) | exact HK.out)⟩, ⟨kB1 HB.out (IsS41.ge HI0.out)⟩⟩
  rw [if_neg c14] at H
  have c14b0 : decide (4096 < t306) = false := decide_eq_false c14
  clear c14
  have H' := As H
  clear H
  obtain ⟨HGz16, hgz16⟩ := HI0.out
  have hcz16_0 := cellS41_0 HGz16
  have hcz16_1 := cellS41_1 HGz16
  have hcz16_2 := cellS41_2 HGz16
  have hcz16_3 := cellS41_3 HGz16
  have hcz16_4 := cellS41_4 HGz16
  have hcz16_5 := cellS41_5 HGz16
  have hcz16_6 := cellS41_6 HGz16
  have hfz16_0 := blk_frozen HGz16 0
  have hfz16_1 := blk_frozen HGz16 1
  have hfz16_2 := blk_frozen HGz16 2
  have hfz16_3 := blk_frozen HGz16 3
  have hfz16_4 := blk_frozen HGz16 4
  have hfz16_5 := blk_frozen HGz16 5
  have hfz16_6 := blk_frozen HGz16 6
  clear HGz16 hgz16
  go_wp2
  go_meet
  case rel => exact ⟨_, (decide (t306 > t307)), kS, H', ⟨by first | omega | exact Nat.le_refl _⟩, ⟨by repeat (first | (with_reducible first | exact HI0.out | apply IsS41.alloc | apply IsS41.drewN | apply IsS41.drew | apply IsS41.set_0 | apply IsS41.set_1 | apply IsS41.set_2 | apply IsS41.set_3 | apply IsS41.set_4 | apply IsS41.set_5 | apply IsS41.set_6) | exact HI0.out)⟩, ⟨by repeat (first | (with_reducible first | exact HK.out | apply KeepBut.set_ | apply keep_drewN | apply keep_drew | apply keep_alloc) | exact HK.out)⟩, ⟨kB1 HB.out (IsS41.ge HI0.out)⟩⟩
 clear HC9
 obtain ⟨kq, x72_8, rfl, HA, HJ8, HI0, HK, HB⟩ := hcut
 cases kq with
 | zero => exact absurd HA.out (by simp [intrusionref09_Reader_check.j0])
 | succ kj8 =>
  have H := HA.out
  clear HA
  simp only [intrusionref09_Reader_check.j0] at H
  by_cases c17 : x72_8 = true
  ·subst c17
   have H1 : (some (([] : List Int), 3, s0_0, s0_1, s0_2, s0_3, s0_4, s0_5, s0_6)) = some (r1, r2, r3, r4, r5, r6, r7, r8, r9) := by rw [if_pos rfl] at H; exact H
   clear H
   have H := H1
   clear H1
   simp only [Option.some.injEq, Prod.mk.injEq] at H
   obtain ⟨rfl, rfl, rfl, rfl, rfl, rfl, rfl, rfl, rfl⟩ := H
   go_wp2
   go_ret2
   exact ⟨_, kE, by first | exact Kd.R_nil _ _ _ _ _ | exact Kd.N_nil _ _ _ _ _ | exact Kd.V_nil _ _ _ _ _ | exact Kd.Q_nil _ _ _ _ _ | exact Kd.S_nil _ _ _ _ _, by repeat (first | (with_reducible first | exact HI0.out | apply IsS41.alloc | apply IsS41.drewN | apply IsS41.drew | apply IsS41.set_0 | apply IsS41.set_1 | apply IsS41.set_2 | apply IsS41.set_3 | apply IsS41.set_4 | apply IsS41.set_5 | apply IsS41.set_6) | exact HI0.out), by exact kB1 HB.out (IsS41.ge HI0.out), by repeat (first | (with_reducible first | exact HK.out | apply KeepBut.set_ | apply keep_drewN | apply keep_drew | apply keep_alloc) | exact HK.out)⟩
  replace c17 := Bool.eq_false_iff.mpr c17
  subst c17
  have H1 : (if s0_4 > 0 then (if (wrap64 ((wrap64 (t304 * 1000)) + (wrap64 (Int.tdiv t305 1000)))) < s0_5 then (some (([] : List Int), 12, s0_0, s0_1, s0_2, s0_3, s0_4, s0_5, s0_6)) else (some ((([(wrap64 ((wrap64 (t304 * 1000)) + (wrap64 (Int.tdiv t305 1000)))), t306, t307] : List Int)), 0, s0_0, s0_1, s0_2, s0_3, s0_4, s0_5, s0_6))) else (some ((([(wrap64 ((wrap64 (t304 * 1000)) + (wrap64 (Int.tdiv t305 1000)))), t306, t307] : List Int)), 0, s0_0, s0_1, s0_2, s0_3, s0_4, s0_5, s0_6))) = some (r1, r2, r3, r4, r5, r6, r7, r8, r9) := by rw [if_neg (show ¬ (false = true) by decide)] at H; exact H
  clear H
  have H := H1
  clear H1
  by_cases c18 : s0_4 > 0
  ·rw [if_pos c18] at H
   have c18b0 : decide (0 < s0_4) = true := decide_eq_true c18
   clear c18
   by_cases c19 : (wrap64 ((wrap64 (t304 * 1000)) + (wrap64 (Int.tdiv t305 1000)))) < s0_5
   ·rw [if_pos c19] at H
    have c19b0 : decide ((wrap64 ((wrap64 (t304 * 1000)) + (wrap64 (Int.tdiv t305 1000)))) < s0_5) = true := decide_eq_true c19
    clear c19
    simp only [Option.some.injEq, Prod.mk.injEq] at H
    obtain ⟨rfl, rfl, rfl, rfl, rfl, rfl, rfl, rfl, rfl⟩ := H
    obtain ⟨HGz20, hgz20⟩ := HI0.out
    have hcz20_0 := cellS41_0 HGz20
    have hcz20_1 := cellS41_1 HGz20
    have hcz20_2 := cellS41_2 HGz20
    have hcz20_3 := cellS41_3 HGz20
    have hcz20_4 := cellS41_4 HGz20
    have hcz20_5 := cellS41_5 HGz20
    have hcz20_6 := cellS41_6 HGz20
    have hfz20_0 := blk_frozen HGz20 0
    have hfz20_1 := blk_frozen HGz20 1
    have hfz20_2 := blk_frozen HGz20 2
    have hfz20_3 := blk_frozen HGz20 3
    have hfz20_4 := blk_frozen HGz20 4
    have hfz20_5 := blk_frozen HGz20 5
    have hfz20_6 := blk_frozen HGz20 6
    clear HGz20 hgz20
    go_wp2
    go_ret2
    exact ⟨_, kE, by first | exact Kd.R_nil _ _ _ _ _ | exact Kd.N_nil _ _ _ _ _ | exact Kd.V_nil _ _ _ _ _ | exact Kd.Q_nil _ _ _ _ _ | exact Kd.S_nil _ _ _ _ _, by repeat (first | (with_reducible first | exact HI0.out | apply IsS41.alloc | apply IsS41.drewN | apply IsS41.drew | apply IsS41.set_0 | apply IsS41.set_1 | apply IsS41.set_2 | apply IsS41.set_3 | apply IsS41.set_4 | apply IsS41.set_5 | apply IsS41.set_6) | exact HI0.out), by exact kB1 HB.out (IsS41.ge HI0.out), by repeat (first | (with_reducible first | exact HK.out | apply KeepBut.set_ | apply keep_drewN | apply keep_drew | apply keep_alloc) | exact HK.out)⟩
   rw [if_neg c19] at H
   have c19b0 : decide ((wrap64 ((wrap64 (t304 * 1000)) + (wrap64 (Int.tdiv t305 1000)))) < s0_5) = false := decide_eq_false c19
   clear c19
   obtain ⟨y308, hy308⟩ : ∃ y_ : List Int, y_ = (([(wrap64 ((wrap64 (t304 * 1000)) + (wrap64 (Int.tdiv t305 1000)))), t306, t307] : List Int)) := ⟨_, rfl⟩
   replace H : (some (y308, 0, s0_0, s0_1, s0_2, s0_3, s0_4, s0_5, s0_6)) = some (r1, r2, r3, r4, r5, r6, r7, r8, r9) := by first | (rw [hy308]; with_reducible exact H) | (have H2_ := (Option.bind_some _ _).symm.trans H; rw [hy308]; with_reducible exact H2_) | (have H2_ := (Option.bind_some _ _).symm.trans H; with_reducible exact H2_) | with_reducible exact H | (rw [hy308]; exact H) | exact H
   have Ny308 := As hy308
   clear hy308
   simp only [Option.some.injEq, Prod.mk.injEq] at H
   obtain ⟨rfl, rfl, rfl, rfl, rfl, rfl, rfl, rfl, rfl⟩ := H
   obtain ⟨HGz21, hgz21⟩ := HI0.out
   have hcz21_0 := cellS41_0 HGz21
   have hcz21_1 := cellS41_1 HGz21
   have hcz21_2 := cellS41_2 HGz21
   have hcz21_3 := cellS41_3 HGz21
   have hcz21_4 := cellS41_4 HGz21
   have hcz21_5 := cellS41_5 HGz21
   have hcz21_6 := cellS41_6 HGz21
   have hfz21_0 := blk_frozen HGz21 0
   have hfz21_1 := blk_frozen HGz21 1
   have hfz21_2 := blk_frozen HGz21 2
   have hfz21_3 := blk_frozen HGz21 3
   have hfz21_4 := blk_frozen HGz21 4
   have hfz21_5 := blk_frozen HGz21 5
   have hfz21_6 := blk_frozen HGz21 6
   clear HGz21 hgz21
   go_wp2_with (first | ((with_reducible refine gate_dst (N := 104) rfl ?_); refine Kd.R_lit (Kd.int .i64) _ 3 rfl (N := 104) rfl (xs := ([(wrap64 ((wrap64 (t304 * 1000)) + (wrap64 (Int.tdiv t305 1000)))), t306, t307] : List Int)) (inner := [.int .i64 (wrap64 ((wrap64 (t304 * 1000)) + (wrap64 (Int.tdiv t305 1000)))), .int .i64 t306, .int .i64 t307]) (ok := fun _ => True) (okp := fun _ => True) kG ?hp (fun _ hk => hk) trivial (Below.refl _ _) (Nat.le_refl _) (by simp) ?_; (case hp => exact (Reps.one (show Kd.M (Kd.int .i64) _ _ _ (wrap64 ((wrap64 (t304 * 1000)) + (wrap64 (Int.tdiv t305 1000)))) [.int .i64 (wrap64 ((wrap64 (t304 * 1000)) + (wrap64 (Int.tdiv t305 1000))))] from rfl) (Reps.one (show Kd.M (Kd.int .i64) _ _ _ t306 [.int .i64 t306] from rfl) (Reps.one (show Kd.M (Kd.int .i64) _ _ _ t307 [.int .i64 t307] from rfl) (Reps.none _ _))))); intro v309 w22 ho23 hb hg_ hnew_; clear hg_ hnew_; (first | rw [← Ny308.out] at ho23 | (simp only [Int.reduceToNat] at ho23; rw [← Ny308.out] at ho23)); have HO310 := As (Kd.R_lower ho23 (keep_size (w := w) (g := g) (row := none) (by repeat (first | (with_reducible first | exact HK.out | apply KeepBut.set_ | apply keep_drewN | apply keep_drew | apply keep_alloc) | exact HK.out)))); replace HK := As (KeepBut.trans (by repeat (first | (with_reducible first | exact HK.out | apply KeepBut.set_ | apply keep_drewN | apply keep_drew | apply keep_alloc) | exact HK.out)) (KeepBut.of_below hb g none) (.inl rfl)); replace HB := As (below_step (kB1 HB.out (IsS41.ge HI0.out)) hb); replace HI0 := As (IsS41.below (by repeat (first | (with_reducible first | exact HI0.out | apply IsS41.alloc | apply IsS41.drewN | apply IsS41.drew | apply IsS41.set_0 | apply IsS41.set_1 | apply IsS41.set_2 | apply IsS41.set_3 | apply IsS41.set_4 | apply IsS41.set_5 | apply IsS41.set_6) | exact HI0.out)) hb); clear hb ho23))
   go_ret2
   exact ⟨_, kE, by (with_reducible repeat (first | apply Kd.R_alloc | apply Kd.R_drewN | apply Kd.R_drew)); exact HO310.out, by repeat (first | (with_reducible first | exact HI0.out | apply IsS41.alloc | apply IsS41.drewN | apply IsS41.drew | apply IsS41.set_0 | apply IsS41.set_1 | apply IsS41.set_2 | apply IsS41.set_3 | apply IsS41.set_4 | apply IsS41.set_5 | apply IsS41.set_6) | exact HI0.out), by exact kB1 HB.out (IsS41.ge HI0.out), by repeat (first | (with_reducible first | exact HK.out | apply KeepBut.set_ | apply keep_drewN | apply keep_drew | apply keep_alloc) | exact HK.out)⟩
  rw [if_neg c18] at H
  have c18b0 : decide (0 < s0_4) = false := decide_eq_false c18
  clear c18
  obtain ⟨y311, hy311⟩ : ∃ y_ : List Int, y_ = (([(wrap64 ((wrap64 (t304 * 1000)) + (wrap64 (Int.tdiv t305 1000)))), t306, t307] : List Int)) := ⟨_, rfl⟩
  replace H : (some (y311, 0, s0_0, s0_1, s0_2, s0_3, s0_4, s0_5, s0_6)) = some (r1, r2, r3, r4, r5, r6, r7, r8, r9) := by first | (rw [hy311]; with_reducible exact H) | (have H2_ := (Option.bind_some _ _).symm.trans H; rw [hy311]; with_reducible exact H2_) | (have H2_ := (Option.bind_some _ _).symm.trans H; with_reducible exact H2_) | with_reducible exact H | (rw [hy311]; exact H) | exact H
  have Ny311 := As hy311
  clear hy311
  simp only [Option.some.injEq, Prod.mk.injEq] at H
  obtain ⟨rfl, rfl, rfl, rfl, rfl, rfl, rfl, rfl, rfl⟩ := H
  obtain ⟨HGz24, hgz24⟩ := HI0.out
  have hcz24_0 := cellS41_0 HGz24
  have hcz24_1 := cellS41_1 HGz24
  have hcz24_2 := cellS41_2 HGz24
  have hcz24_3 := cellS41_3 HGz24
  have hcz24_4 := cellS41_4 HGz24
  have hcz24_5 := cellS41_5 HGz24
  have hcz24_6 := cellS41_6 HGz24
  have hfz24_0 := blk_frozen HGz24 0
  have hfz24_1 := blk_frozen HGz24 1
  have hfz24_2 := blk_frozen HGz24 2
  have hfz24_3 := blk_frozen HGz24 3
  have hfz24_4 := blk_frozen HGz24 4
  have hfz24_5 := blk_frozen HGz24 5
  have hfz24_6 := blk_frozen HGz24 6
  clear HGz24 hgz24
  go_wp2_with (first | ((with_reducible refine gate_dst (N := 104) rfl ?_); refine Kd.R_lit (Kd.int .i64) _ 3 rfl (N := 104) rfl (xs := ([(wrap64 ((wrap64 (t304 * 1000)) + (wrap64 (Int.tdiv t305 1000)))), t306, t307] : List Int)) (inner := [.int .i64 (wrap64 ((wrap64 (t304 * 1000)) + (wrap64 (Int.tdiv t305 1000)))), .int .i64 t306, .int .i64 t307]) (ok := fun _ => True) (okp := fun _ => True) kG ?hp (fun _ hk => hk) trivial (Below.refl _ _) (Nat.le_refl _) (by simp) ?_; (case hp => exact (Reps.one (show Kd.M (Kd.int .i64) _ _ _ (wrap64 ((wrap64 (t304 * 1000)) + (wrap64 (Int.tdiv t305 1000)))) [.int .i64 (wrap64 ((wrap64 (t304 * 1000)) + (wrap64 (Int.tdiv t305 1000))))] from rfl) (Reps.one (show Kd.M (Kd.int .i64) _ _ _ t306 [.int .i64 t306] from rfl) (Reps.one (show Kd.M (Kd.int .i64) _ _ _ t307 [.int .i64 t307] from rfl) (Reps.none _ _))))); intro v312 w25 ho26 hb hg_ hnew_; clear hg_ hnew_; (first | rw [← Ny311.out] at ho26 | (simp only [Int.reduceToNat] at ho26; rw [← Ny311.out] at ho26)); have HO313 := As (Kd.R_lower ho26 (keep_size (w := w) (g := g) (row := none) (by repeat (first | (with_reducible first | exact HK.out | apply KeepBut.set_ | apply keep_drewN | apply keep_drew | apply keep_alloc) | exact HK.out)))); replace HK := As (KeepBut.trans (by repeat (first | (with_reducible first | exact HK.out | apply KeepBut.set_ | apply keep_drewN | apply keep_drew | apply keep_alloc) | exact HK.out)) (KeepBut.of_below hb g none) (.inl rfl)); replace HB := As (below_step (kB1 HB.out (IsS41.ge HI0.out)) hb); replace HI0 := As (IsS41.below (by repeat (first | (with_reducible first | exact HI0.out | apply IsS41.alloc | apply IsS41.drewN | apply IsS41.drew | apply IsS41.set_0 | apply IsS41.set_1 | apply IsS41.set_2 | apply IsS41.set_3 | apply IsS41.set_4 | apply IsS41.set_5 | apply IsS41.set_6) | exact HI0.out)) hb); clear hb ho26))
  go_ret2
  exact ⟨_, kE, by (with_reducible repeat (first | apply Kd.R_alloc | apply Kd.R_drewN | apply Kd.R_drew)); exact HO313.out, by repeat (first | (with_reducible first | exact HI0.out | apply IsS41.alloc | apply IsS41.drewN | apply IsS41.drew | apply IsS41.set_0 | apply IsS41.set_1 | apply IsS41.set_2 | apply IsS41.set_3 | apply IsS41.set_4 | apply IsS41.set_5 | apply IsS41.set_6) | exact HI0.out), by exact kB1 HB.out (IsS41.ge HI0.out), by repeat (first | (with_reducible first | exact HK.out | apply KeepBut.set_ | apply keep_drewN | apply keep_drew | apply keep_alloc) | exact HK.out)⟩

end Go.Proofs.Ytafjmciojeondaa.X
-- short
