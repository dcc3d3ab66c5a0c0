/- Functions and their walks, printed by xprint.py. -/
import Derived.Test.YtobioaommmgehaaX0
import Derived.Test.YtobioaommmgehaaX14
import Derived.Test.YtobioaommmgehaaX15
import Derived.Test.YtobioaommmgehaaX16
namespace Go.Proofs.Ytobioaommmgehaa.X
open Go.RowKit Go.Proofs.YtobioaommmgehaaW.PrintWords Go.Proofs.YtobioaommmgehaaW.PrintLast Go.Proofs.YtobioaommmgehaaW.PrintMore
attribute [local go_sem] max2_int min2_int max_two min_two max_three min_three max_four min_four   -- for this text's walks alone
set_option linter.unusedVariables false
set_option linter.unusedSimpArgs false

/-! ### intrusionref11_Decode: function 12 -/
mutual
def intrusionref11_Decode.j0 : Nat → ByteArray → Int → Bool → Option (Int × Int × Int × Int × Bool × Bool × Int × Bool × Int × Int × Bool × Int × Int × (List (S50)) × ByteArray × Int)
 | 0, _, _, _ => none
 | k + 1, x0, x4, x29 => if x29 = true then (some (0, 0, 0, 0, false, false, 0, false, 0, 0, false, 0, 0, ([] : List (S50)), (⟨#[]⟩ : ByteArray), 2)) else ((intrusionref11_number.f k x0 2 2).bind fun t393 => (if x4 > (x0.size : Int) then (intrusionref11_Decode.j1 k x0 x4 t393 true) else (intrusionref11_Decode.j1 k x0 x4 t393 (decide (t393 > (x0.size : Int))))))
def intrusionref11_Decode.j1 : Nat → ByteArray → Int → Int → Bool → Option (Int × Int × Int × Int × Bool × Bool × Int × Bool × Int × Int × Bool × Int × Int × (List (S50)) × ByteArray × Int)
 | 0, _, _, _, _ => none
 | k + 1, x0, x4, x5, x42 => if x42 = true then (some (0, 0, 0, 0, false, false, 0, false, 0, 0, false, 0, 0, ([] : List (S50)), (⟨#[]⟩ : ByteArray), 1)) else (if x5 < x4 then (some (0, 0, 0, 0, false, false, 0, false, 0, 0, false, 0, 0, ([] : List (S50)), (⟨#[]⟩ : ByteArray), 2)) else (if 0 ≤ x4 then (if x4 ≤ (x0.size : Int) then ((intrusionref02_Sum.f k (x0.extract 0 (x4 : Int).toNat)).bind fun t394 => (if t394 = 0 then (if 20 ≤ x4 then ((intrusionref11_Options.f k (x0.extract 20 (x4 : Int).toNat)).bind fun bt395 => ((intrusionref11_number.f k x0 6 2).bind fun t399 => (if bt395.2 = true then (intrusionref11_Decode.j2 k x0 x4 x5 bt395.1 t399 (decide (t399 ≥ 32768))) else (intrusionref11_Decode.j2 k x0 x4 x5 bt395.1 t399 true)))) else (none)) else (some (0, 0, 0, 0, false, false, 0, false, 0, 0, false, 0, 0, ([] : List (S50)), (⟨#[]⟩ : ByteArray), 8)))) else (none)) else (none)))
def intrusionref11_Decode.j2 : Nat → ByteArray → Int → Int → List (S50) → Int → Bool → Option (Int × Int × Int × Int × Bool × Bool × Int × Bool × Int × Int × Bool × Int × Int × (List (S50)) × ByteArray × Int)
 | 0, _, _, _, _, _, _ => none
 | k + 1, x0, x4, x5, x6, x8, x68 => if x68 = true then (some (0, 0, 0, 0, false, false, 0, false, 0, 0, false, 0, 0, ([] : List (S50)), (⟨#[]⟩ : ByteArray), 2)) else (if 12 ≤ 16 then (if 16 ≤ (x0.size : Int) then ((intrusionref06_FromBytes.f k (x0.extract 12 16)).bind fun bt400 => (if 16 ≤ 20 then (if 20 ≤ (x0.size : Int) then ((intrusionref06_FromBytes.f k (x0.extract 16 20)).bind fun bt405 => (if 1 < (x0.size : Int) then ((intrusionref11_number.f k x0 4 2).bind fun t410 => (if 8 < (x0.size : Int) then (if 9 < (x0.size : Int) then (if 0 ≤ x4 then (if x4 ≤ x5 then (if x5 ≤ (x0.size : Int) then (some (wrap64 (bt x0 1), t410, wrap64 (bt x0 8), wrap64 (bt x0 9), ((Int.tmod (wrap64 (Int.tdiv x8 16384)) 2) == 1), ((Int.tmod (wrap64 (Int.tdiv x8 8192)) 2) == 1), wrap64 ((Int.tmod x8 8192) * 8), bt400.1, bt400.2.1, bt400.2.2.1, bt405.1, bt405.2.1, bt405.2.2.1, x6, x0.extract (x4 : Int).toNat (x5 : Int).toNat, 0)) else (none)) else (none)) else (none)) else (none)) else (none))) else (none))) else (none)) else (none))) else (none)) else (none))
end
def intrusionref11_Decode.f (k : Nat) (a0 : ByteArray) : Option (Int × Int × Int × Int × Bool × Bool × Int × Bool × Int × Int × Bool × Int × Int × (List (S50)) × ByteArray × Int) := if (a0.size : Int) < 20 then (some (0, 0, 0, 0, false, false, 0, false, 0, 0, false, 0, 0, ([] : List (S50)), (⟨#[]⟩ : ByteArray), 1)) else (if 0 < (a0.size : Int) then (if ((Int.tdiv (bt a0 0) 16) % 256) = 4 then (intrusionref11_Decode.j0 k a0 (wrap64 ((Int.tmod (wrap64 (bt a0 0)) 16) * 4)) (decide ((wrap64 ((Int.tmod (wrap64 (bt a0 0)) 16) * 4)) < 20))) else (intrusionref11_Decode.j0 k a0 (wrap64 ((Int.tmod (wrap64 (bt a0 0)) 16) * 4)) true)) else (none))
theorem intrusionref11_Decode.mono_l : ∀ k, (∀ y0 y1 y2, LeO (intrusionref11_Decode.j0 k y0 y1 y2) (intrusionref11_Decode.j0 (k + 1) y0 y1 y2)) ∧ (∀ y0 y1 y2 y3, LeO (intrusionref11_Decode.j1 k y0 y1 y2 y3) (intrusionref11_Decode.j1 (k + 1) y0 y1 y2 y3)) ∧ (∀ y0 y1 y2 y3 y4 y5, LeO (intrusionref11_Decode.j2 k y0 y1 y2 y3 y4 y5) (intrusionref11_Decode.j2 (k + 1) y0 y1 y2 y3 y4 y5))
 | 0 => ⟨fun _ _ _ r h => by simp [intrusionref11_Decode.j0] at h, fun _ _ _ _ r h => by simp [intrusionref11_Decode.j1] at h, fun _ _ _ _ _ _ r h => by simp [intrusionref11_Decode.j2] at h⟩
 | k + 1 => by
  obtain ⟨ih0, ih1, ih2⟩ := intrusionref11_Decode.mono_l k
  refine ⟨?_, ?_, ?_⟩
  ·intro y0 y1 y2
   unfold intrusionref11_Decode.j0
   repeat' first | with_reducible first | apply ih0 | apply ih1 | apply ih2 | apply intrusionref02_Sum.mono | apply intrusionref06_FromBytes.mono | apply intrusionref11_Options.mono | apply intrusionref11_number.mono | apply LeO.refl | apply LeO.none | refine LeO.ite ?_ ?_ | refine LeO.bind ?_ (fun _ => ?_)
  ·intro y0 y1 y2 y3
   unfold intrusionref11_Decode.j1
   repeat' first | with_reducible first | apply ih0 | apply ih1 | apply ih2 | apply intrusionref02_Sum.mono | apply intrusionref06_FromBytes.mono | apply intrusionref11_Options.mono | apply intrusionref11_number.mono | apply LeO.refl | apply LeO.none | refine LeO.ite ?_ ?_ | refine LeO.bind ?_ (fun _ => ?_)
  intro y0 y1 y2 y3 y4 y5
  unfold intrusionref11_Decode.j2
  repeat' first | with_reducible first | apply ih0 | apply ih1 | apply ih2 | apply intrusionref02_Sum.mono | apply intrusionref06_FromBytes.mono | apply intrusionref11_Options.mono | apply intrusionref11_number.mono | apply LeO.refl | apply LeO.none | refine LeO.ite ?_ ?_ | refine LeO.bind ?_ (fun _ => ?_)
theorem intrusionref11_Decode.mono : ∀ a0 k, LeO (intrusionref11_Decode.f k a0) (intrusionref11_Decode.f (k + 1) a0) := by
 intro a0 k
 obtain ⟨ih0, ih1, ih2⟩ := intrusionref11_Decode.mono_l k
 unfold intrusionref11_Decode.f
 repeat' first | with_reducible first | apply ih0 | apply ih1 | apply ih2 | apply intrusionref02_Sum.mono | apply intrusionref06_FromBytes.mono | apply intrusionref11_Options.mono | apply intrusionref11_number.mono | apply LeO.refl | apply LeO.none | refine LeO.ite ?_ ?_ | refine LeO.bind ?_ (fun _ => ?_)
def intrusionref11_Decode.T19 : Bool × List (List Nat × List Nat) := (true, [([], []), ([0], [0]), ([1], [1]), ([], []), ([3], [3]), ([], []), ([5], [5]), ([6], [6]), ([], []), ([8], [8]), ([9], [9]), ([], []), ([11], [11]), ([12], [12]), ([13], [13]), ([], []), ([15], [15]), ([16], [16]), ([17], [17]), ([], []), ([19], [19]), ([20], [20]), ([], []), ([], []), ([], []), ([], []), ([], []), ([], []), ([25, 26, 27], [25, 26, 27]), ([2, 4, 7, 10, 14, 18, 21, 22, 23, 24, 28], [2, 4, 7, 10, 14, 18, 21, 22, 23, 24, 28]), ([29, 4, 0, 1, 2, 3, 4, 5, 6, 7, 8, 9, 10, 11, 12, 13, 14, 15, 16, 17, 18, 19, 20, 21, 22, 23, 24, 25, 26, 27, 28, 29], [29]), ([30, 0, 1, 2, 3, 4, 5, 6, 7, 8, 9, 10, 11, 12, 13, 14, 15, 16, 17, 18, 19, 20, 21, 22, 23, 24, 25, 26, 27, 28, 29, 30], [])])
def intrusionref11_Decode.B19 : List Nat := [0, 1, 3, 0, 8, 0, 32, 96, 0, 256, 768, 0, 2048, 6144, 14336, 0, 32768, 98304, 229376, 0, 524288, 1572864, 0, 0, 0, 0, 0, 0, 234881024, 536870911, 1073741823, 2147483647]
theorem intrusionref11_Decode.tab19 : rtab .any (opsOf Try.f12 19) = intrusionref11_Decode.T19 := by kernel_rfl
theorem intrusionref11_Decode.bits19 : waitsOk intrusionref11_Decode.T19.2 intrusionref11_Decode.B19 = true := by kernel_rfl
set_option maxHeartbeats 8000000 in
set_option maxRecDepth 100000 in
theorem intrusionref11_Decode.calls (k : Nat) (a0 : ByteArray) (r1 : Int) (r2 : Int) (r3 : Int) (r4 : Int) (r5 : Bool) (r6 : Bool) (r7 : Int) (r8 : Bool) (r9 : Int) (r10 : Int) (r11 : Bool) (r12 : Int) (r13 : Int) (r14 : List (S50)) (r15 : ByteArray) (r16 : Int) (w : World) (h : intrusionref11_Decode.f k a0 = some (r1, r2, r3, r4, r5, r6, r7, r8, r9, r10, r11, r12, r13, r14, r15, r16)) :
  Calls Try.prog 12 #[.string a0] w fun e w' => ∃ v13_ : Value, e = .returned (.tuple #[.agg #[.int .i64 r1, .int .i64 r2, .int .i64 r3, .int .i64 r4, .bool r5, .bool r6, .int .i64 r7, .bool r8, .int .u64 r9, .int .u64 r10, .bool r11, .int .u64 r12, .int .u64 r13, v13_, .string r15], .int .i64 r16]) ∧ Kd.R k50 50 w' w.heap.size (fun _ => True) v13_ r14 ∧ Below w.heap.size w w' := by
 have hu28 := Try.underlying28
 have hu25 := Try.underlying25
 have HB := As (Below.refl w.heap.size w)
 have H : (if (a0.size : Int) < 20 then (some (0, 0, 0, 0, false, false, 0, false, 0, 0, false, 0, 0, ([] : List (S50)), (⟨#[]⟩ : ByteArray), 1)) else (if 0 < (a0.size : Int) then (if ((Int.tdiv (bt a0 0) 16) % 256) = 4 then (intrusionref11_Decode.j0 k a0 (wrap64 ((Int.tmod (wrap64 (bt a0 0)) 16) * 4)) (decide ((wrap64 ((Int.tmod (wrap64 (bt a0 0)) 16) * 4)) < 20))) else (intrusionref11_Decode.j0 k a0 (wrap64 ((Int.tmod (wrap64 (bt a0 0)) 16) * 4)) true)) else (none))) = some (r1, r2, r3, r4, r5, r6, r7, r8, r9, r10, r11, r12, r13, r14, r15, r16) := h
 clear h
 by_cases c2 : (a0.size : Int) < 20
 ·rw [if_pos c2] at H
  have c2b0 : decide ((a0.size : Int) < 20) = true := decide_eq_true c2
  have c2b1 : decide (a0.size < 20) = true := decide_eq_true (by omega)
  clear c2
  simp only [Option.some.injEq, Prod.mk.injEq] at H
  obtain ⟨rfl, rfl, rfl, rfl, rfl, rfl, rfl, rfl, rfl, rfl, rfl, rfl, rfl, rfl, rfl, rfl⟩ := H
  go_enter Try.func12, Try.ntmps12
  go_wp2_with (first | ((with_reducible refine gate_dst (N := 2) rfl ?_); (try (refine gate_guard (by rfl) ?_; dsimp only)); refine box_event rfl (N := 2) rfl (cs := #[.int .i64 0, .int .i64 0, .int .i64 0, .int .i64 0, .bool false, .bool false, .int .i64 0, .bool false, .int .u64 0, .int .u64 0, .bool false, .int .u64 0, .int .u64 0, .slice none 0 0, .string (⟨#[]⟩ : ByteArray)]) (t := 28) kG ?_; intro gb392 hg w3 hbox hb; have BK392 := As (hbox); have GW392 := As (gS hg (below_size (kB HB.out))); have GE392 := As (gS hg (below_size (kB HB.out))); replace HB := As (below_step (kB HB.out) hb); clear hb hbox hg) | ((with_reducible refine gate_store (t := 28) (p := 2) rfl ?_); refine store_rowev_15 gb392 (.int .i64 0) (.int .i64 0) (.int .i64 0) (.int .i64 0) (.bool false) (.bool false) (.int .i64 0) (.bool false) (.int .u64 0) (.int .u64 0) (.bool false) (.int .u64 0) (.int .u64 0) (.slice none 0 0) (.string (⟨#[]⟩ : ByteArray)) rfl (t := 28) (p := 2) (v := _) rfl rfl rfl rfl (t' := 28) (kb BK392.out) (by rfl) (by kernel_rfl) (by rfl) ?_))
  refine bodyPost_ret (results_ct rfl _ _ gb392 28 #[.int .i64 0, .int .i64 0, .int .i64 0, .int .i64 0, .bool false, .bool false, .int .i64 0, .bool false, .int .u64 0, .int .u64 0, .bool false, .int .u64 0, .int .u64 0, .slice none 0 0, .string (⟨#[]⟩ : ByteArray)] (0, 0) _ rfl (by refine kb ?_; exact blk_all_15 (kb BK392.out) (by rfl)) Try.underlying28 rfl (by kernel_rfl)) rfl ?_
  exact ⟨_, kE, by first | exact Kd.R_nil _ _ _ _ _ | exact Kd.N_nil _ _ _ _ _ | exact Kd.V_nil _ _ _ _ _ | exact Kd.Q_nil _ _ _ _ _ | exact Kd.S_nil _ _ _ _ _, by exact kB1 HB.out GE392.out⟩
 rw [if_neg c2] at H
 have c2b0 : decide ((a0.size : Int) < 20) = false := decide_eq_false c2
 have c2b1 : decide (a0.size < 20) = false := decide_eq_false (by omega)
 clear c2
 replace H := iS H
 obtain ⟨c4, H⟩ := H
 have c4b0 := decide_eq_true c4
 have c4b1 : decide (0 < a0.size) = true := decide_eq_true (by omega)
 clear c4
 have HC6 := As H
 clear H
 go_enter Try.func12, Try.ntmps12
 go_upto_region 4 with (first | ((with_reducible refine gate_dst (N := 2) rfl ?_); (try (refine gate_guard (by rfl) ?_; dsimp only)); refine box_event rfl (N := 2) rfl (cs := #[.int .i64 0, .int .i64 0, .int .i64 0, .int .i64 0, .bool false, .bool false, .int .i64 0, .bool false, .int .u64 0, .int .u64 0, .bool false, .int .u64 0, .int .u64 0, .slice none 0 0, .string (⟨#[]⟩ : ByteArray)]) (t := 28) kG ?_; intro gb392 hg w7 hbox hb; have BK392 := As (hbox); have GW392 := As (gS hg (below_size (kB HB.out))); have GE392 := As (gS hg (below_size (kB HB.out))); replace HB := As (below_step (kB HB.out) hb); clear hb hbox hg; have p5 : 0 ≤ (0 : Int) := (by omega); have q5 : 0 < a0.size := (by have : (0 : Int) < (a0.size : Int) := of_decide_eq_true (by first | (with_reducible assumption) | assumption); omega); have hx5 : ∀ h : 0 < a0.size, ((a0[0]'h).toNat : Int) = bt a0 0 := bt_at a0 0; clear p5; have qi5 : (0 < (a0.size : Int)) = True := eq_true (of_decide_eq_true (by first | (with_reducible assumption) | assumption)); replace q5 := eq_true q5))
 (try simp only [Act.put, sA, sZ, sS])
 go_cut [29] (fun v29 wc => ∃ (kq : Nat) (x29_5 : Bool), v29 = .bool x29_5 ∧ Aside0 (intrusionref11_Decode.j0 kq a0 (wrap64 ((Int.tmod (wrap64 (bt a0 0)) 16) * 4)) x29_5 = some (r1, r2, r3, r4, r5, r6, r7, r8, r9, r10, r11, r12, r13, r14, r15, r16)) ∧ Aside0 (kq ≤ k) ∧ Aside0 (wc.heap[gb392]? = some (.cells #[.int .i64 0, .int .i64 0, .int .i64 0, .int .i64 0, .bool false, .bool false, .int .i64 0, .bool false, .int .u64 0, .int .u64 0, .bool false, .int .u64 0, .int .u64 0, (.slice none 0 0), .string (⟨#[]⟩ : ByteArray)] 28 (0, 0))) ∧ Aside0 (Below w.heap.size w wc))
 case first =>
  have H := HC6.out
  clear HC6
  by_cases c9 : ((Int.tdiv (bt a0 0) 16) % 256) = 4
  ·rw [if_pos c9] at H
   have c9b0 : (((Int.tdiv (bt a0 0) 16) % 256) == 4) = true := beq_iff_eq.mpr c9
   have c9b1 : (((Int.tdiv (bt a0 0) 16) % 256) != 4) = false := bne_eq_false_iff_eq.mpr c9
   clear c9
   (first | rw [c9b0] | (simp only [i64_w, i32_w]; rw [c9b0]) | skip)
   have H' := As H
   clear H
   have p8 : 0 ≤ (0 : Int) := (by omega)
   have q8 : 0 < a0.size := (by have : (0 : Int) < (a0.size : Int) := of_decide_eq_true (by first | (with_reducible assumption) | assumption); omega)
   have hx8 : ∀ h : 0 < a0.size, ((a0[0]'h).toNat : Int) = bt a0 0 := bt_at a0 0
   clear p8
   have qi8 : (0 < (a0.size : Int)) = True := eq_true (of_decide_eq_true (by first | (with_reducible assumption) | assumption))
   replace q8 := eq_true q8
   go_wp2
   go_meet
   case rel => exact ⟨_, (decide ((wrap64 ((Int.tmod (wrap64 (bt a0 0)) 16) * 4)) < 20)), kS, H', ⟨by first | omega | exact Nat.le_refl _⟩, ⟨kb BK392.out⟩, ⟨kB1 HB.out GE392.out⟩⟩
  rw [if_neg c9] at H
  have c9b0 : (((Int.tdiv (bt a0 0) 16) % 256) == 4) = false := beq_eq_false_iff_ne.mpr c9
  have c9b1 : (((Int.tdiv (bt a0 0) 16) % 256) != 4) = true := bne_iff_ne.mpr c9
  (first | rw [c9b0] | (simp only [i64_w, i32_w]; rw [c9b0]) | skip)
  have H' := As H
  clear H
  have p8 : 0 ≤ (0 : Int) := (by omega)
  have q8 : 0 < a0.size := (by have : (0 : Int) < (a0.size : Int) := of_decide_eq_true (by first | (with_reducible assumption) | assumption); omega)
  have hx8 : ∀ h : 0 < a0.size, ((a0[0]'h).toNat : Int) = bt a0 0 := bt_at a0 0
  clear p8
  have qi8 : (0 < (a0.size : Int)) = True := eq_true (of_decide_eq_true (by first | (with_reducible assumption) | assumption))
  replace q8 := eq_true q8
  go_wp2
  go_meet
  case rel => exact ⟨_, (true), kS, H', ⟨by first | omega | exact Nat.le_refl _⟩, ⟨kb BK392.out⟩, ⟨kB1 HB.out GE392.out⟩⟩
 clear HC6
 try clear c2
 try clear c2b0
 try clear c2b1
 try clear c4
 try clear c4b0
 try clear c4b1
 try clear p5
 try clear q5
 try clear hx5
 try clear qi5
 obtain ⟨kq, x29_5, rfl, HA, HJ5, BK392, HB⟩ := hcut
 cases kq with
 | zero => exact absurd HA.out (by simp [intrusionref11_Decode.j0])
 | succ kj5 =>
  have H := HA.out
  clear HA
  simp only [intrusionref11_Decode.j0] at H
  by_cases c10 : x29_5 = true
  ·subst c10
   rw [if_pos rfl] at H
   simp only [Option.some.injEq, Prod.mk.injEq] at H
   obtain ⟨rfl, rfl, rfl, rfl, rfl, rfl, rfl, rfl, rfl, rfl, rfl, rfl, rfl, rfl, rfl, rfl⟩ := H
   go_wp2_with (first | ((with_reducible refine gate_store (t := 28) (p := 2) rfl ?_); refine store_rowev_15 gb392 (.int .i64 0) (.int .i64 0) (.int .i64 0) (.int .i64 0) (.bool false) (.bool false) (.int .i64 0) (.bool false) (.int .u64 0) (.int .u64 0) (.bool false) (.int .u64 0) (.int .u64 0) (.slice none 0 0) (.string (⟨#[]⟩ : ByteArray)) rfl (t := 28) (p := 2) (v := _) rfl rfl rfl rfl (t' := 28) (kb BK392.out) (by rfl) (by kernel_rfl) (by rfl) ?_))
   refine bodyPost_ret (results_ct rfl _ _ gb392 28 #[.int .i64 0, .int .i64 0, .int .i64 0, .int .i64 0, .bool false, .bool false, .int .i64 0, .bool false, .int .u64 0, .int .u64 0, .bool false, .int .u64 0, .int .u64 0, .slice none 0 0, .string (⟨#[]⟩ : ByteArray)] (0, 0) _ rfl (by refine kb ?_; exact blk_all_15 (kb BK392.out) (by rfl)) Try.underlying28 rfl (by kernel_rfl)) rfl ?_
   exact ⟨_, kE, by first | exact Kd.R_nil _ _ _ _ _ | exact Kd.N_nil _ _ _ _ _ | exact Kd.V_nil _ _ _ _ _ | exact Kd.Q_nil _ _ _ _ _ | exact Kd.S_nil _ _ _ _ _, by exact kB1 HB.out GE392.out⟩
  replace c10 := Bool.eq_false_iff.mpr c10
  subst c10
  rw [if_neg (show ¬ (false = true) by decide)] at H
  replace H := bS H
  obtain ⟨t393, A11, H⟩ := H
  have HC12 := As H
  clear H
  go_upto_region 7 with (first | ((with_reducible refine gate_callee (f := 30) rfl ?_); refine goesL_ (some 32) rfl rfl Try.func30 (by kernel_rfl) rfl #[.string a0, .int .i64 2, .int .i64 2] rfl kA ?_; (with_reducible refine (intrusionref11_number.calls kj5 a0 2 2 t393 _ A11.out).mono ?_); rintro e w' ⟨rfl, ⟨nd, rfl⟩⟩; refine ⟨_, rfl, ?_⟩))
  (try simp only [Act.put, sA, sZ, sS])
  go_cut [42] (fun v42 wc => ∃ (kq : Nat) (x42_11 : Bool), v42 = .bool x42_11 ∧ Aside0 (intrusionref11_Decode.j1 kq a0 (wrap64 ((Int.tmod (wrap64 (bt a0 0)) 16) * 4)) t393 x42_11 = some (r1, r2, r3, r4, r5, r6, r7, r8, r9, r10, r11, r12, r13, r14, r15, r16)) ∧ Aside0 (kq ≤ kj5) ∧ Aside0 (wc.heap[gb392]? = some (.cells #[.int .i64 0, .int .i64 0, .int .i64 0, .int .i64 0, .bool false, .bool false, .int .i64 0, .bool false, .int .u64 0, .int .u64 0, .bool false, .int .u64 0, .int .u64 0, (.slice none 0 0), .string (⟨#[]⟩ : ByteArray)] 28 (0, 0))) ∧ Aside0 (Below w.heap.size w wc))
  case first =>
   have H := HC12.out
   clear HC12
   by_cases c13 : (wrap64 ((Int.tmod (wrap64 (bt a0 0)) 16) * 4)) > (a0.size : Int)
   ·rw [if_pos c13] at H
    have c13b0 : decide ((a0.size : Int) < (wrap64 ((Int.tmod (wrap64 (bt a0 0)) 16) * 4))) = true := decide_eq_true c13
    clear c13
    (first | rw [c13b0] | (simp only [i64_w, i32_w]; rw [c13b0]) | skip)
    have H' := As H
    clear H
    go_wp2
    go_meet
    case rel => exact ⟨_, (true), kS, H', ⟨by have := HJ5.out; first | omega | exact Nat.le_refl _⟩, ⟨kb BK392.out⟩, ⟨kB1 HB.out GE392.out⟩⟩
   rw [if_neg c13] at H
   have c13b0 : decide ((a0.size : Int) < (wrap64 ((Int.tmod (wrap64 (bt a0 0)) 16) * 4))) = false := decide_eq_false c13
   clear c13
   (first | rw [c13b0] | (simp only [i64_w, i32_w]; rw [c13b0]) | skip)
   have H' := As H
   clear H
   go_wp2
   go_meet
   case rel => exact ⟨_, (decide (t393 > (a0.size : Int))), kS, H', ⟨by have := HJ5.out; first | omega | exact Nat.le_refl _⟩, ⟨kb BK392.out⟩, ⟨kB1 HB.out GE392.out⟩⟩
  clear HC12
  try clear c10
  obtain ⟨kq, x42_11, rfl, HA, HJ11, BK392, HB⟩ := hcut
  cases kq with
  | zero => exact absurd HA.out (by simp [intrusionref11_Decode.j1])
  | succ kj11 =>
   have H := HA.out
   clear HA
   simp only [intrusionref11_Decode.j1] at H
   by_cases c14 : x42_11 = true
   ·subst c14
    rw [if_pos rfl] at H
    simp only [Option.some.injEq, Prod.mk.injEq] at H
    obtain ⟨rfl, rfl, rfl, rfl, rfl, rfl, rfl, rfl, rfl, rfl, rfl, rfl, rfl, rfl, rfl, rfl⟩ := H
    go_wp2_with (first | ((with_reducible refine gate_store (t := 28) (p := 2) rfl ?_); refine store_rowev_15 gb392 (.int .i64 0) (.int .i64 0) (.int .i64 0) (.int .i64 0) (.bool false) (.bool false) (.int .i64 0) (.bool false) (.int .u64 0) (.int .u64 0) (.bool false) (.int .u64 0) (.int .u64 0) (.slice none 0 0) (.string (⟨#[]⟩ : ByteArray)) rfl (t := 28) (p := 2) (v := _) rfl rfl rfl rfl (t' := 28) (kb BK392.out) (by rfl) (by kernel_rfl) (by rfl) ?_))
    refine bodyPost_ret (results_ct rfl _ _ gb392 28 #[.int .i64 0, .int .i64 0, .int .i64 0, .int .i64 0, .bool false, .bool false, .int .i64 0, .bool false, .int .u64 0, .int .u64 0, .bool false, .int .u64 0, .int .u64 0, .slice none 0 0, .string (⟨#[]⟩ : ByteArray)] (0, 0) _ rfl (by refine kb ?_; exact blk_all_15 (kb BK392.out) (by rfl)) Try.underlying28 rfl (by kernel_rfl)) rfl ?_
    exact ⟨_, kE, by first | exact Kd.R_nil _ _ _ _ _ | exact Kd.N_nil _ _ _ _ _ | exact Kd.V_nil _ _ _ _ _ | exact Kd.Q_nil _ _ _ _ _ | exact Kd.S_nil _ _ _ _ _, by exact kB1 HB.out GE392.out⟩
   replace c14 := Bool.eq_false_iff.mpr c14
   subst c14
   rw [if_neg (show ¬ (false = true) by decide)] at H
   by_cases c15 : t393 < (wrap64 ((Int.tmod (wrap64 (bt a0 0)) 16) * 4))
   ·rw [if_pos c15] at H
    have c15b0 : decide (t393 < (wrap64 ((Int.tmod (wrap64 (bt a0 0)) 16) * 4))) = true := decide_eq_true c15
    clear c15
    simp only [Option.some.injEq, Prod.mk.injEq] at H
    obtain ⟨rfl, rfl, rfl, rfl, rfl, rfl, rfl, rfl, rfl, rfl, rfl, rfl, rfl, rfl, rfl, rfl⟩ := H
    go_wp2_with (first | ((with_reducible refine gate_store (t := 28) (p := 2) rfl ?_); refine store_rowev_15 gb392 (.int .i64 0) (.int .i64 0) (.int .i64 0) (.int .i64 0) (.bool false) (.bool false) (.int .i64 0) (.bool false) (.int .u64 0) (.int .u64 0) (.bool false) (.int .u64 0) (.int .u64 0) (.slice none 0 0) (.string (⟨#[]⟩ : ByteArray)) rfl (t := 28) (p := 2) (v := _) rfl rfl rfl rfl (t' := 28) (kb BK392.out) (by rfl) (by kernel_rfl) (by rfl) ?_))
    refine bodyPost_ret (results_ct rfl _ _ gb392 28 #[.int .i64 0, .int .i64 0, .int .i64 0, .int .i64 0, .bool false, .bool false, .int .i64 0, .bool false, .int .u64 0, .int .u64 0, .bool false, .int .u64 0, .int .u64 0, .slice none 0 0, .string (⟨#[]⟩ : ByteArray)] (0, 0) _ rfl (by refine kb ?_; exact blk_all_15 (kb BK392.out) (by rfl)) Try.underlying28 rfl (by kernel_rfl)) rfl ?_
    exact ⟨_, kE, by first | exact Kd.R_nil _ _ _ _ _ | exact Kd.N_nil _ _ _ _ _ | exact Kd.V_nil _ _ _ _ _ | exact Kd.Q_nil _ _ _ _ _ | exact Kd.S_nil _ _ _ _ _, by exact kB1 HB.out GE392.out⟩
   rw [if_neg c15] at H
   have c15b0 : decide (t393 < (wrap64 ((Int.tmod (wrap64 (bt a0 0)) 16) * 4))) = false := decide_eq_false c15
   clear c15
   obtain ⟨ji16, hji16⟩ : ∃ j_ : Int, (wrap64 ((Int.tmod (wrap64 (bt a0 0)) 16) * 4)) = j_ := ⟨_, rfl⟩
   replace H : (if 0 ≤ (ji16) then (if (ji16) ≤ (a0.size : Int) then ((intrusionref02_Sum.f kj11 (a0.extract 0 ((ji16) : Int).toNat)).bind fun t394 => (if t394 = 0 then (if 20 ≤ (ji16) then ((intrusionref11_Options.f kj11 (a0.extract 20 ((ji16) : Int).toNat)).bind fun bt395 => ((intrusionref11_number.f kj11 a0 6 2).bind fun t399 => (if bt395.2 = true then (intrusionref11_Decode.j2 kj11 a0 (ji16) t393 bt395.1 t399 (decide (t399 ≥ 32768))) else (intrusionref11_Decode.j2 kj11 a0 (ji16) t393 bt395.1 t399 true)))) else (none)) else (some (0, 0, 0, 0, false, false, 0, false, 0, 0, false, 0, 0, ([] : List (S50)), (⟨#[]⟩ : ByteArray), 8)))) else (none)) else (none)) = some (r1, r2, r3, r4, r5, r6, r7, r8, r9, r10, r11, r12, r13, r14, r15, r16) := by first | (rw [hji16] at H; exact H) | (simp only [hji16] at H ⊢; exact H)
   (try rw [hji16] at c15b0)
   have hji16w : (IntKind.i64.wrap ((Int.tmod (wrap64 (bt a0 0)) 16) * 4)) = ji16 := (i64_w _).trans hji16
   replace H := iS H
   obtain ⟨c17, H⟩ := H
   have c17b0 := eq_true c17
   have c17b1 := decide_eq_true c17
   clear c17
   replace H := iS H
   obtain ⟨c18, H⟩ := H
   have c18b0 := eq_true c18
   have c18b1 := decide_eq_true c18
   clear c18
   replace H := bS H
   obtain ⟨t394, A19, H⟩ := H
   by_cases c20 : t394 = 0
   ·rw [if_pos c20] at H
    have c20b0 : (t394 == 0) = true := beq_iff_eq.mpr c20
    have c20b1 : (t394 != 0) = false := bne_eq_false_iff_eq.mpr c20
    clear c20
    replace H := iS H
    obtain ⟨c21, H⟩ := H
    have c21b0 := eq_true c21
    have c21b1 := decide_eq_true c21
    clear c21
    have c22b0 := eq_true (of_decide_eq_true (by first | (with_reducible assumption) | assumption) : (ji16) ≤ (a0.size : Int))
    replace H := bS H
    obtain ⟨⟨t395, t396⟩, A23, H⟩ := H
    try dsimp -simprocs only at H
    replace H := bS H
    obtain ⟨t399, A24, H⟩ := H
    have HC25 := As H
    clear H
    go_upto_region 15 with (first | ((with_reducible refine gate_callee (f := 31) rfl ?_); refine goesL_ (some 51) rfl rfl Try.func31 (by kernel_rfl) rfl #[.string (a0.extract 0 ((ji16) : Int).toNat)] rfl (by (try simp only [List.map_toArray, List.map_cons, List.map_nil]); first | done | (simp only [hji16]; rfl) | rfl | (simp only [List.length_drop, List.length_take]; rfl)) ?_; (with_reducible refine (intrusionref02_Sum.calls kj11 (a0.extract 0 ((ji16) : Int).toNat) t394 _ A19.out).mono ?_); rintro e w' ⟨rfl, ⟨nd, rfl⟩⟩; refine ⟨_, rfl, ?_⟩) | ((with_reducible refine gate_callee (f := 32) rfl ?_); refine goesL_ (some 58) rfl rfl Try.func32 (by kernel_rfl) rfl #[.string (a0.extract 20 ((ji16) : Int).toNat)] rfl (by (try simp only [List.map_toArray, List.map_cons, List.map_nil]); first | done | (simp only [hji16]; rfl) | rfl | (simp only [List.length_drop, List.length_take]; rfl)) ?_; (with_reducible refine (intrusionref11_Options.calls kj11 (a0.extract 20 ((ji16) : Int).toNat) t395 t396 _ A23.out).mono ?_); rintro e w26 ⟨v397, rfl, ho0, hb⟩; refine ⟨_, rfl, ?_⟩; have HO398 := As (Kd.R_lower ho0 (below_size (kB1 HB.out GE392.out))); replace BK392 := As (blk_below (kb BK392.out) hb); replace HB := As (below_step (kB1 HB.out GE392.out) hb); (try clear hb); (try clear ho0)) | ((with_reducible refine gate_callee (f := 30) rfl ?_); refine goesL_ (some 62) rfl rfl Try.func30 (by kernel_rfl) rfl #[.string a0, .int .i64 6, .int .i64 2] rfl kA ?_; (with_reducible refine (intrusionref11_number.calls kj11 a0 6 2 t399 _ A24.out).mono ?_); rintro e w' ⟨rfl, ⟨nd, rfl⟩⟩; refine ⟨_, rfl, ?_⟩))
    (try simp only [Act.put, sA, sZ, sS])
    go_cut [68] (fun v68 wc => ∃ (kq : Nat) (x68_24 : Bool), v68 = .bool x68_24 ∧ Aside0 (intrusionref11_Decode.j2 kq a0 (ji16) t393 t395 t399 x68_24 = some (r1, r2, r3, r4, r5, r6, r7, r8, r9, r10, r11, r12, r13, r14, r15, r16)) ∧ Aside0 (kq ≤ kj11) ∧ Aside0 (Kd.R k50 50 wc w.heap.size (fun _ => True) v397 t395) ∧ Aside0 (wc.heap[gb392]? = some (.cells #[.int .i64 0, .int .i64 0, .int .i64 0, .int .i64 0, .bool false, .bool false, .int .i64 0, .bool false, .int .u64 0, .int .u64 0, .bool false, .int .u64 0, .int .u64 0, (.slice none 0 0), .string (⟨#[]⟩ : ByteArray)] 28 (0, 0))) ∧ Aside0 (Below w.heap.size w wc))
    case first =>
     have H := HC25.out
     clear HC25
     by_cases c27 : t396 = true
     ·subst c27
      rw [if_pos rfl] at H
      have H' := As H
      clear H
      go_wp2
      go_meet
      case rel => exact ⟨_, (decide (t399 ≥ 32768)), kS, H', ⟨by have := HJ5.out; have := HJ11.out; first | omega | exact Nat.le_refl _⟩, ⟨by (with_reducible repeat (first | apply Kd.R_alloc | apply Kd.R_drewN | apply Kd.R_drew)); exact HO398.out⟩, ⟨kb BK392.out⟩, ⟨kB1 HB.out GE392.out⟩⟩
     replace c27 := Bool.eq_false_iff.mpr c27
     subst c27
     rw [if_neg (show ¬ (false = true) by decide)] at H
     have H' := As H
     clear H
     go_wp2
     go_meet
     case rel => exact ⟨_, (true), kS, H', ⟨by have := HJ5.out; have := HJ11.out; first | omega | exact Nat.le_refl _⟩, ⟨by (with_reducible repeat (first | apply Kd.R_alloc | apply Kd.R_drewN | apply Kd.R_drew)); exact HO398.out⟩, ⟨kb BK392.out⟩, ⟨kB1 HB.out GE392.out⟩⟩
    clear HC25
    try clear c14
    try clear c15
    try clear c15b0
    try clear c17
    try clear c17b0
    try clear c17b1
    try clear c18
    try clear c18b0
    try clear c18b1
    try clear c20
    try clear c20b0
    try clear c20b1
    try clear c21
    try clear c21b0
    try clear c21b1
    try clear c22b0
    obtain ⟨kq, x68_24, rfl, HA, HJ24, HO_6, BK392, HB⟩ := hcut
    cases kq with
    | zero => exact absurd HA.out (by simp [intrusionref11_Decode.j2])
    | succ kj24 =>
     have H := HA.out
     clear HA
     simp only [intrusionref11_Decode.j2] at H
     by_cases c28 : x68_24 = true
     ·subst c28
      rw [if_pos rfl] at H
      simp only [Option.some.injEq, Prod.mk.injEq] at H
      obtain ⟨rfl, rfl, rfl, rfl, rfl, rfl, rfl, rfl, rfl, rfl, rfl, rfl, rfl, rfl, rfl, rfl⟩ := H
      go_wp2_with (first | ((with_reducible refine gate_store (t := 28) (p := 2) rfl ?_); refine store_rowev_15 gb392 (.int .i64 0) (.int .i64 0) (.int .i64 0) (.int .i64 0) (.bool false) (.bool false) (.int .i64 0) (.bool false) (.int .u64 0) (.int .u64 0) (.bool false) (.int .u64 0) (.int .u64 0) (.slice none 0 0) (.string (⟨#[]⟩ : ByteArray)) rfl (t := 28) (p := 2) (v := _) rfl rfl rfl rfl (t' := 28) (kb BK392.out) (by rfl) (by kernel_rfl) (by rfl) ?_))
      refine bodyPost_ret (results_ct rfl _ _ gb392 28 #[.int .i64 0, .int .i64 0, .int .i64 0, .int .i64 0, .bool false, .bool false, .int .i64 0, .bool false, .int .u64 0, .int .u64 0, .bool false, .int .u64 0, .int .u64 0, .slice none 0 0, .string (⟨#[]⟩ : ByteArray)] (0, 0) _ rfl (by refine kb ?_; exact blk_all_15 (kb BK392.out) (by rfl)) Try.underlying28 rfl (by kernel_rfl)) rfl ?_
      exact ⟨_, by first | rfl | (simp [errW_none, errW_some] <;> rfl) | (simp only [← hji16]; first | rfl | (simp [errW_none, errW_some] <;> rfl)) | (simp [*, errW_none, errW_some] <;> rfl), by first | exact Kd.R_nil _ _ _ _ _ | exact Kd.N_nil _ _ _ _ _ | exact Kd.V_nil _ _ _ _ _ | exact Kd.Q_nil _ _ _ _ _ | exact Kd.S_nil _ _ _ _ _, by exact kB1 HB.out GE392.out⟩
     replace c28 := Bool.eq_false_iff.mpr c28
     subst c28
     rw [if_neg (show ¬ (false = true) by decide)] at H
     replace H := iS H
     obtain ⟨c29, H⟩ := H
     have c29b0 := eq_true c29
     have c29b1 := decide_eq_true c29
     clear c29
     replace H := iS H
     obtain ⟨c30, H⟩ := H
     have c30b0 := eq_true c30
     have c30b1 := decide_eq_true c30
     clear c30
     replace H := bS H
     obtain ⟨⟨t400, t401, t402, t403⟩, A31, H⟩ := H
     try dsimp -simprocs only at H
     replace H := iS H
     obtain ⟨c32, H⟩ := H
     have c32b0 := eq_true c32
     have c32b1 := decide_eq_true c32
     clear c32
     replace H := iS H
     obtain ⟨c33, H⟩ := H
     have c33b0 := eq_true c33
     have c33b1 := decide_eq_true c33
     clear c33
     replace H := bS H
     obtain ⟨⟨t405, t406, t407, t408⟩, A34, H⟩ := H
     try dsimp -simprocs only at H
     replace H := iS H
     obtain ⟨c35, H⟩ := H
     have c35b0 := decide_eq_true c35
     have c35b1 : decide (1 < a0.size) = true := decide_eq_true (by omega)
     clear c35
     replace H := bS H
     obtain ⟨t410, A37, H⟩ := H
     replace H := iS H
     obtain ⟨c38, H⟩ := H
     have c38b0 := decide_eq_true c38
     have c38b1 : decide (8 < a0.size) = true := decide_eq_true (by omega)
     clear c38
     replace H := iS H
     obtain ⟨c40, H⟩ := H
     have c40b0 := decide_eq_true c40
     have c40b1 : decide (9 < a0.size) = true := decide_eq_true (by omega)
     clear c40
     replace H := iS H
     obtain ⟨c42, H⟩ := H
     have c42b0 := eq_true c42
     have c42b1 := decide_eq_true c42
     clear c42
     replace H := iS H
     obtain ⟨c43, H⟩ := H
     have c43b0 := eq_true c43
     have c43b1 := decide_eq_true c43
     clear c43
     replace H := iS H
     obtain ⟨c44, H⟩ := H
     have c44b0 := eq_true c44
     have c44b1 := decide_eq_true c44
     clear c44
     simp only [Option.some.injEq, Prod.mk.injEq] at H
     obtain ⟨rfl, rfl, rfl, rfl, rfl, rfl, rfl, rfl, rfl, rfl, rfl, rfl, rfl, rfl, rfl, rfl⟩ := H
     try go_wp2_with (first | ((with_reducible refine gate_callee (f := 33) rfl ?_); refine goesL_ (some 73) rfl rfl Try.func33 (by kernel_rfl) rfl #[.string (a0.extract 12 16)] rfl kA ?_; (with_reducible refine (intrusionref06_FromBytes.calls kj24 (a0.extract 12 16) t400 t401 t402 t403 _ A31.out).mono ?_); rintro e w45 ⟨rfl, hb⟩; refine ⟨_, rfl, ?_⟩; replace HO_6 := As (Kd.R_below (kR HO_6.out) hb); replace BK392 := As (blk_below (kb BK392.out) hb); replace HB := As (below_step (kB1 HB.out GE392.out) hb); (try clear hb)) | ((with_reducible refine gate_dst (N := 9) rfl ?_); (try (refine gate_guard (by rfl) ?_; dsimp only)); refine box_event rfl (N := 9) rfl (cs := #[.bool false, .int .u64 0, .int .u64 0]) (t := 25) kG ?_; intro gb404 hg w46 hbox hb; replace HO_6 := As (Kd.R_below (kR HO_6.out) hb); have BK404 := As (hbox); have GW404 := As (gS hg (below_size (kB1 HB.out GE392.out))); have GE404 := As (gS hg (below_size (kB1 HB.out GE392.out))); replace HB := As (below_step (kB1 HB.out GE392.out) hb); have NB392_404 := As (gN hg (blk_lt (kb BK392.out))); have NB404_392 := As (gM hg (blk_lt (kb BK392.out))); replace BK392 := As (blk_below (kb BK392.out) hb); clear hb hbox hg; have hnb47 := NB404_392.out; have hnc47 := NB392_404.out; have hcz48_0 := cells_3 BK404.out; have hfz48_0 := fun j_ => blk_frozen BK404.out j_) | ((with_reducible refine gate_callee (f := 33) rfl ?_); refine goesL_ (some 79) rfl rfl Try.func33 (by kernel_rfl) rfl #[.string (a0.extract 16 20)] rfl kA ?_; (with_reducible refine (intrusionref06_FromBytes.calls kj24 (a0.extract 16 20) t405 t406 t407 t408 _ A34.out).mono ?_); rintro e w49 ⟨rfl, hb⟩; refine ⟨_, rfl, ?_⟩; replace HO_6 := As (Kd.R_below (by refine kR ?_; exact (Kd.R_mono (Kd.R_puts_0_3 gb404 (.bool t400) (.int .u64 t401) (.int .u64 t402) (Kd.R_types HO_6.out BK404.out (by decide)) (fun _ hk => hk.2)) (fun _ h_ => h_.1))) hb); replace BK392 := As (blk_below (g := gb392) (o := .cells #[.int .i64 0, .int .i64 0, .int .i64 0, .int .i64 0, .bool false, .bool false, .int .i64 0, .bool false, .int .u64 0, .int .u64 0, .bool false, .int .u64 0, .int .u64 0, .slice none 0 0, .string (⟨#[]⟩ : ByteArray)] 28 (0, 0)) (by refine kb ?_; (iterate 3 (refine blk_far ?_ NB392_404.out _; refine kb ?_)); exact BK392.out) hb); replace BK404 := As (blk_below (g := gb404) (o := .cells #[.bool t400, .int .u64 t401, .int .u64 t402] 25 (0, 0)) (by refine kb ?_; exact blk_all_3 (kb BK404.out) (by rfl)) hb); replace HB := As (below_step (kB2 HB.out GE392.out GE404.out) hb); (try clear hb); (try clear hk)) | ((with_reducible refine gate_dst (N := 11) rfl ?_); (try (refine gate_guard (by rfl) ?_; dsimp only)); refine box_event rfl (N := 11) rfl (cs := #[.bool false, .int .u64 0, .int .u64 0]) (t := 25) kG ?_; intro gb409 hg w50 hbox hb; replace HO_6 := As (Kd.R_below (kR HO_6.out) hb); have BK409 := As (hbox); have GW409 := As (gS hg (below_size (kB2 HB.out GE392.out GE404.out))); have GE409 := As (gS hg (below_size (kB2 HB.out GE392.out GE404.out))); replace HB := As (below_step (kB2 HB.out GE392.out GE404.out) hb); have NB392_409 := As (gN hg (blk_lt (kb BK392.out))); have NB409_392 := As (gM hg (blk_lt (kb BK392.out))); replace BK392 := As (blk_below (kb BK392.out) hb); have NB404_409 := As (gN hg (blk_lt (kb BK404.out))); have NB409_404 := As (gM hg (blk_lt (kb BK404.out))); replace BK404 := As (blk_below (kb BK404.out) hb); clear hb hbox hg; have hnb51 := NB409_392.out; have hnc51 := NB392_409.out; have hnb52 := NB409_404.out; have hnc52 := NB404_409.out; have hcz53_0 := cells_3 BK409.out; have hfz53_0 := fun j_ => blk_frozen BK409.out j_))
     have n0_ : Aside0 (Kd.R k50 50 (((w50.setCell ⟨gb409, 0, none⟩ (.bool t405)).setCell ⟨gb409, 1, none⟩ (.int .u64 t406)).setCell ⟨gb409, 2, none⟩ (.int .u64 t407)) w.heap.size (fun _ => True) v397 t395) := ⟨by (with_reducible repeat (first | apply Kd.R_alloc | apply Kd.R_drewN | apply Kd.R_drew)); exact Kd.R_mono (Kd.R_puts_0_3 gb409 (.bool t405) (.int .u64 t406) (.int .u64 t407) (Kd.R_types HO_6.out BK409.out (by decide)) (fun _ hk => hk.2)) (fun _ hk => trivial)⟩
     have n1_ : Aside0 ((((w50.setCell ⟨gb409, 0, none⟩ (.bool t405)).setCell ⟨gb409, 1, none⟩ (.int .u64 t406)).setCell ⟨gb409, 2, none⟩ (.int .u64 t407)).heap[gb392]? = some (.cells #[.int .i64 0, .int .i64 0, .int .i64 0, .int .i64 0, .bool false, .bool false, .int .i64 0, .bool false, .int .u64 0, .int .u64 0, .bool false, .int .u64 0, .int .u64 0, .slice none 0 0, .string (⟨#[]⟩ : ByteArray)] 28 (0, 0))) := ⟨by refine kb ?_; (iterate 3 (refine blk_far ?_ NB392_409.out _; refine kb ?_)); exact BK392.out⟩
     have n2_ : Aside0 ((((w50.setCell ⟨gb409, 0, none⟩ (.bool t405)).setCell ⟨gb409, 1, none⟩ (.int .u64 t406)).setCell ⟨gb409, 2, none⟩ (.int .u64 t407)).heap[gb404]? = some (.cells #[.bool t400, .int .u64 t401, .int .u64 t402] 25 (0, 0))) := ⟨by refine kb ?_; (iterate 3 (refine blk_far ?_ NB404_409.out _; refine kb ?_)); exact BK404.out⟩
     have n3_ : Aside0 ((((w50.setCell ⟨gb409, 0, none⟩ (.bool t405)).setCell ⟨gb409, 1, none⟩ (.int .u64 t406)).setCell ⟨gb409, 2, none⟩ (.int .u64 t407)).heap[gb409]? = some (.cells #[.bool t405, .int .u64 t406, .int .u64 t407] 25 (0, 0))) := ⟨by refine kb ?_; exact blk_all_3 (kb BK409.out) (by rfl)⟩
     have n4_ : Aside0 (Below w.heap.size w (((w50.setCell ⟨gb409, 0, none⟩ (.bool t405)).setCell ⟨gb409, 1, none⟩ (.int .u64 t406)).setCell ⟨gb409, 2, none⟩ (.int .u64 t407))) := ⟨kB3 HB.out GE392.out GE404.out GE409.out⟩
     (try clear HO_6)
     (try clear BK392)
     (try clear BK404)
     (try clear BK409)
     (try clear HB)
     generalize (((w50.setCell ⟨gb409, 0, none⟩ (.bool t405)).setCell ⟨gb409, 1, none⟩ (.int .u64 t406)).setCell ⟨gb409, 2, none⟩ (.int .u64 t407)) = w54 at n0_ n1_ n2_ n3_ n4_ ⊢
     have HO_6 := n0_
     have BK392 := n1_
     have BK404 := n2_
     have BK409 := n3_
     have HB := n4_
     clear n0_ n1_ n2_ n3_ n4_
     replace HO_6 := As (Kd.R_drew HO_6.out)
     replace BK392 := As (blk_drew BK392.out)
     replace BK404 := As (blk_drew BK404.out)
     replace BK409 := As (blk_drew BK409.out)
     replace HB := As (below_drew1 HB.out)
     have p36 : 0 ≤ (1 : Int) := (by omega)
     have q36 : 1 < a0.size := (by have : (1 : Int) < (a0.size : Int) := of_decide_eq_true (by first | (with_reducible assumption) | assumption); omega)
     have hx36 : ∀ h : 1 < a0.size, ((a0[1]'h).toNat : Int) = bt a0 1 := bt_at a0 1
     clear p36
     have qi36 : (1 < (a0.size : Int)) = True := eq_true (of_decide_eq_true (by first | (with_reducible assumption) | assumption))
     replace q36 := eq_true q36
     have p39 : 0 ≤ (8 : Int) := (by omega)
     have q39 : 8 < a0.size := (by have : (8 : Int) < (a0.size : Int) := of_decide_eq_true (by first | (with_reducible assumption) | assumption); omega)
     have hx39 : ∀ h : 8 < a0.size, ((a0[8]'h).toNat : Int) = bt a0 8 := bt_at a0 8
     clear p39
     have qi39 : (8 < (a0.size : Int)) = True := eq_true (of_decide_eq_true (by first | (with_reducible assumption) | assumption))
     replace q39 := eq_true q39
     have p41 : 0 ≤ (9 : Int) := (by omega)
     have q41 : 9 < a0.size := (by have : (9 : Int) < (a0.size : Int) := of_decide_eq_true (by first | (with_reducible assumption) | assumption); omega)
     have hx41 : ∀ h : 9 < a0.size, ((a0[9]'h).toNat : Int) = bt a0 9 := bt_at a0 9
     clear p41
     have qi41 : (9 < (a0.size : Int)) = True := eq_true (of_decide_eq_true (by first | (with_reducible assumption) | assumption))
     replace q41 := eq_true q41
     refine start_ (n := 32) (S := fun w' => w'.cell? ⟨gb404, 0, none⟩ = some (.bool t400) ∧ w'.cell? ⟨gb404, 1, none⟩ = some (.int .u64 t401) ∧ w'.cell? ⟨gb404, 2, none⟩ = some (.int .u64 t402) ∧ w'.cell? ⟨gb409, 0, none⟩ = some (.bool t405) ∧ w'.cell? ⟨gb409, 1, none⟩ = some (.int .u64 t406) ∧ w'.cell? ⟨gb409, 2, none⟩ = some (.int .u64 t407)) (ds := []) #[O, O, O, O, O, O, O, O, O, O, O, O, O, O, O, O, O, O, O, O, O, O, O, O, O, O, O, O, O, O, O, O] (by kernel_rfl) rfl rfl ⟨kC BK404.out 0, kC BK404.out 1, kC BK404.out 2, kC BK409.out 0, kC BK409.out 1, kC BK409.out 2⟩ (fun hHeld => ?_); refine with_tabW intrusionref11_Decode.tab19 intrusionref11_Decode.bits19 (fun HT_ HW_ => ?_)
     generalize w54.drew = w55 at HO_6 BK392 BK404 BK409 HB hHeld ⊢
     refine kP 0 82 #[I, O, O, O, O, O, O, O, O, O, O, O, O, O, O, O, O, O, O, O, O, O, O, O, O, O, O, O, O, O, O, O] ?_ (any_of HT_.out (by kernel_rfl))
     refine kP 3 85 #[I, O, O, I, O, O, O, O, O, O, O, O, O, O, O, O, O, O, O, O, O, O, O, O, O, O, O, O, O, O, O, O] ?_ (any_of HT_.out (by kernel_rfl))
     refine kP 5 87 #[I, O, O, I, O, I, O, O, O, O, O, O, O, O, O, O, O, O, O, O, O, O, O, O, O, O, O, O, O, O, O, O] ?_ (any_of HT_.out (by kernel_rfl))
     refine kP 8 90 #[I, O, O, I, O, I, O, O, I, O, O, O, O, O, O, O, O, O, O, O, O, O, O, O, O, O, O, O, O, O, O, O] ?_ (any_of HT_.out (by kernel_rfl))
     refine kP 11 93 #[I, O, O, I, O, I, O, O, I, O, O, I, O, O, O, O, O, O, O, O, O, O, O, O, O, O, O, O, O, O, O, O] ?_ (any_of HT_.out (by kernel_rfl))
     refine kP 12 94 #[I, O, O, I, O, I, O, O, I, O, O, I, I, O, O, O, O, O, O, O, O, O, O, O, O, O, O, O, O, O, O, O] ?_ (any_of HT_.out (by kernel_rfl))
     refine kP 13 95 #[I, O, O, I, O, I, O, O, I, O, O, I, I, I, O, O, O, O, O, O, O, O, O, O, O, O, O, O, O, O, O, O] ?_ (any_of HT_.out (by kernel_rfl))
     refine kP 14 96 #[I, O, O, I, O, I, O, O, I, O, O, I, I, I, I, O, O, O, O, O, O, O, O, O, O, O, O, O, O, O, O, O] ?_ (any_of HT_.out (by kernel_rfl))
     refine kP 15 97 #[I, O, O, I, O, I, O, O, I, O, O, I, I, I, I, I, O, O, O, O, O, O, O, O, O, O, O, O, O, O, O, O] ?_ (any_of HT_.out (by kernel_rfl))
     refine kP 16 98 #[I, O, O, I, O, I, O, O, I, O, O, I, I, I, I, I, I, O, O, O, O, O, O, O, O, O, O, O, O, O, O, O] ?_ (any_of HT_.out (by kernel_rfl))
     refine kP 17 99 #[I, O, O, I, O, I, O, O, I, O, O, I, I, I, I, I, I, I, O, O, O, O, O, O, O, O, O, O, O, O, O, O] ?_ (any_of HT_.out (by kernel_rfl))
     refine kP 18 100 #[I, O, O, I, O, I, O, O, I, O, O, I, I, I, I, I, I, I, I, O, O, O, O, O, O, O, O, O, O, O, O, O] ?_ (any_of HT_.out (by kernel_rfl))
     refine kP 19 101 #[I, O, O, I, O, I, O, O, I, O, O, I, I, I, I, I, I, I, I, I, O, O, O, O, O, O, O, O, O, O, O, O] ?_ (any_of HT_.out (by kernel_rfl))
     refine kP 20 102 #[I, O, O, I, O, I, O, O, I, O, O, I, I, I, I, I, I, I, I, I, I, O, O, O, O, O, O, O, O, O, O, O] ?_ (any_of HT_.out (by kernel_rfl))
     refine kP 21 103 #[I, O, O, I, O, I, O, O, I, O, O, I, I, I, I, I, I, I, I, I, I, I, O, O, O, O, O, O, O, O, O, O] ?_ (any_of HT_.out (by kernel_rfl))
     refine kP 24 106 #[I, O, O, I, O, I, O, O, I, O, O, I, I, I, I, I, I, I, I, I, I, I, O, O, I, O, O, O, O, O, O, O] ?_ (any_of HT_.out (by kernel_rfl))
     refine kP 25 107 #[I, O, O, I, O, I, O, O, I, O, O, I, I, I, I, I, I, I, I, I, I, I, O, O, I, I, O, O, O, O, O, O] ?_ (any_of HT_.out (by kernel_rfl))
     refine kP 26 108 #[I, O, O, I, O, I, O, O, I, O, O, I, I, I, I, I, I, I, I, I, I, I, O, O, I, I, I, O, O, O, O, O] ?_ (any_of HT_.out (by kernel_rfl))
     refine kP 27 109 #[I, O, O, I, O, I, O, O, I, O, O, I, I, I, I, I, I, I, I, I, I, I, O, O, I, I, I, I, O, O, O, O] ?_ (any_of HT_.out (by kernel_rfl))
     refine kP 28 110 #[I, O, O, I, O, I, O, O, I, O, O, I, I, I, I, I, I, I, I, I, I, I, O, O, I, I, I, I, I, O, O, O] ?_ (any_of HT_.out (by kernel_rfl))
     refine take_ (i := 1) (N := some 83) (v := ?_) (a' := ?_) #[I, I, O, I, O, I, O, O, I, O, O, I, I, I, I, I, I, I, I, I, I, I, O, O, I, I, I, I, I, O, O, O] rfl rfl (take_ofW HT_.out HW_.out (by kernel_rfl)) (fun _ _ _ h => h) (Or.inl ⟨by rfl, ?_⟩) hHeld ?_ ?_
     rotate_left
     ·rintro w' ⟨s0, s1, s2, s3, s4, s5⟩
      go_simp
      with_reducible rfl
     rotate_left
     ·simp only [Act.put, sA, sZ, sS, i64_w, i32_w]
      rfl
     refine kP 2 84 #[I, I, I, I, O, I, O, O, I, O, O, I, I, I, I, I, I, I, I, I, I, I, O, O, I, I, I, I, I, O, O, O] ?_ (any_of HT_.out (by kernel_rfl))
     refine take_ (i := 6) (N := some 88) (v := ?_) (a' := ?_) #[I, I, I, I, O, I, I, O, I, O, O, I, I, I, I, I, I, I, I, I, I, I, O, O, I, I, I, I, I, O, O, O] rfl rfl (take_ofW HT_.out HW_.out (by kernel_rfl)) (fun _ _ _ h => h) (Or.inl ⟨by rfl, ?_⟩) hHeld ?_ ?_
     rotate_left
     ·rintro w' ⟨s0, s1, s2, s3, s4, s5⟩
      go_simp
      with_reducible rfl
     rotate_left
     ·simp only [Act.put, sA, sZ, sS, i64_w, i32_w]
      rfl
     refine kP 7 89 #[I, I, I, I, O, I, I, I, I, O, O, I, I, I, I, I, I, I, I, I, I, I, O, O, I, I, I, I, I, O, O, O] ?_ (any_of HT_.out (by kernel_rfl))
     refine take_ (i := 9) (N := some 91) (v := ?_) (a' := ?_) #[I, I, I, I, O, I, I, I, I, I, O, I, I, I, I, I, I, I, I, I, I, I, O, O, I, I, I, I, I, O, O, O] rfl rfl (take_ofW HT_.out HW_.out (by kernel_rfl)) (fun _ _ _ h => h) (Or.inl ⟨by rfl, ?_⟩) hHeld ?_ ?_
     rotate_left
     ·rintro w' ⟨s0, s1, s2, s3, s4, s5⟩
      go_simp
      with_reducible rfl
     rotate_left
     ·simp only [Act.put, sA, sZ, sS, i64_w, i32_w]
      rfl
     refine kP 10 92 #[I, I, I, I, O, I, I, I, I, I, I, I, I, I, I, I, I, I, I, I, I, I, O, O, I, I, I, I, I, O, O, O] ?_ (any_of HT_.out (by kernel_rfl))
     refine take_ (i := 22) (N := some 104) (v := ?_) (a' := ?_) #[I, I, I, I, O, I, I, I, I, I, I, I, I, I, I, I, I, I, I, I, I, I, I, O, I, I, I, I, I, O, O, O] rfl rfl (take_ofW HT_.out HW_.out (by kernel_rfl)) (fun _ _ _ h => h) (Or.inl ⟨by rfl, ?_⟩) hHeld ?_ ?_
     rotate_left
     ·rintro w' ⟨s0, s1, s2, s3, s4, s5⟩
      go_simp
      with_reducible rfl
     rotate_left
     ·simp only [Act.put, sA, sZ, sS, i64_w, i32_w]
      rfl
     refine take_ (i := 23) (N := some 105) (v := ?_) (a' := ?_) #[I, I, I, I, O, I, I, I, I, I, I, I, I, I, I, I, I, I, I, I, I, I, I, I, I, I, I, I, I, O, O, O] rfl rfl (take_ofW HT_.out HW_.out (by kernel_rfl)) (fun _ _ _ h => h) (Or.inl ⟨by rfl, ?_⟩) hHeld ?_ ?_
     rotate_left
     ·rintro w' ⟨s0, s1, s2, s3, s4, s5⟩
      go_simp
      with_reducible rfl
     rotate_left
     ·simp only [Act.put, sA, sZ, sS, i64_w, i32_w]
      rfl
     refine one_ (i := 4) (N := some 86) #[I, I, I, I, I, I, I, I, I, I, I, I, I, I, I, I, I, I, I, I, I, I, I, I, I, I, I, I, I, O, O, O] rfl rfl (one_of HT_.out (by kernel_rfl)) (by decide) (fun K hK => ?_)
     refine goes_ Try.func30 (by kernel_rfl) rfl #[.string a0, .int .i64 4, .int .i64 2] (by rfl) rfl rfl kA ?_
     with_reducible refine (intrusionref11_number.calls kj24 a0 4 2 t410 _ A37.out).mono ?_
     rintro e w' ⟨rfl, ⟨nd, rfl⟩⟩
     refine ⟨_, rfl, ?_⟩
     obtain ⟨Ao56, co56, eo56⟩ := Kd.R_slice HO_6.out
     (first | subst eo56 | (injection eo56 with f1_ f2_ f3_; have f4_ := f1_.symm; have f5_ := f3_.symm; clear f1_ f2_ f3_; subst f4_; subst f5_))
     refine hK.out _ _ ⟨kC BK404.out 0, kC BK404.out 1, kC BK404.out 2, kC BK409.out 0, kC BK409.out 1, kC BK409.out 2⟩ (fun hHeld => ?_)
     clear hK K
     refine nP ?_
     refine kP 29 111 #[I, I, I, I, I, I, I, I, I, I, I, I, I, I, I, I, I, I, I, I, I, I, I, I, I, I, I, I, I, I, O, O] ?_ (any_of HT_.out (by kernel_rfl))
     refine one_ (i := 30) (N := none) #[I, I, I, I, I, I, I, I, I, I, I, I, I, I, I, I, I, I, I, I, I, I, I, I, I, I, I, I, I, I, I, O] rfl rfl (one_of HT_.out (by kernel_rfl)) (by decide) (fun K hK => ?_)
     have hs57 : w55.cell? ⟨gb392, 0, none⟩ = some (.int .i64 0) := (blk_cell BK392.out 0).trans rfl
     have hfs57 := blk_frozen BK392.out 0
     have hns57_1 := NB404_392.out
     have hns57_2 := NB409_392.out
     have hms57_1 := NB392_404.out
     have hms57_2 := NB392_409.out
     have hs58 : w55.cell? ⟨gb392, 1, none⟩ = some (.int .i64 0) := (blk_cell BK392.out 1).trans rfl
     have hfs58 := blk_frozen BK392.out 1
     have hns58_1 := NB404_392.out
     have hns58_2 := NB409_392.out
     have hms58_1 := NB392_404.out
     have hms58_2 := NB392_409.out
     have hs59 : w55.cell? ⟨gb392, 2, none⟩ = some (.int .i64 0) := (blk_cell BK392.out 2).trans rfl
     have hfs59 := blk_frozen BK392.out 2
     have hns59_1 := NB404_392.out
     have hns59_2 := NB409_392.out
     have hms59_1 := NB392_404.out
     have hms59_2 := NB392_409.out
     have hs60 : w55.cell? ⟨gb392, 3, none⟩ = some (.int .i64 0) := (blk_cell BK392.out 3).trans rfl
     have hfs60 := blk_frozen BK392.out 3
     have hns60_1 := NB404_392.out
     have hns60_2 := NB409_392.out
     have hms60_1 := NB392_404.out
     have hms60_2 := NB392_409.out
     have hs61 : w55.cell? ⟨gb392, 4, none⟩ = some (.bool false) := (blk_cell BK392.out 4).trans rfl
     have hfs61 := blk_frozen BK392.out 4
     have hns61_1 := NB404_392.out
     have hns61_2 := NB409_392.out
     have hms61_1 := NB392_404.out
     have hms61_2 := NB392_409.out
     have hs62 : w55.cell? ⟨gb392, 5, none⟩ = some (.bool false) := (blk_cell BK392.out 5).trans rfl
     have hfs62 := blk_frozen BK392.out 5
     have hns62_1 := NB404_392.out
     have hns62_2 := NB409_392.out
     have hms62_1 := NB392_404.out
     have hms62_2 := NB392_409.out
     have hs63 : w55.cell? ⟨gb392, 6, none⟩ = some (.int .i64 0) := (blk_cell BK392.out 6).trans rfl
     have hfs63 := blk_frozen BK392.out 6
     have hns63_1 := NB404_392.out
     have hns63_2 := NB409_392.out
     have hms63_1 := NB392_404.out
     have hms63_2 := NB392_409.out
     have hs64 : w55.cell? ⟨gb392, 7, none⟩ = some (.bool false) := (blk_cell BK392.out 7).trans rfl
     have hfs64 := blk_frozen BK392.out 7
     have hns64_1 := NB404_392.out
     have hns64_2 := NB409_392.out
     have hms64_1 := NB392_404.out
     have hms64_2 := NB392_409.out
     have hs65 : w55.cell? ⟨gb392, 8, none⟩ = some (.int .u64 0) := (blk_cell BK392.out 8).trans rfl
     have hfs65 := blk_frozen BK392.out 8
     have hns65_1 := NB404_392.out
     have hns65_2 := NB409_392.out
     have hms65_1 := NB392_404.out
     have hms65_2 := NB392_409.out
     have hs66 : w55.cell? ⟨gb392, 9, none⟩ = some (.int .u64 0) := (blk_cell BK392.out 9).trans rfl
     have hfs66 := blk_frozen BK392.out 9
     have hns66_1 := NB404_392.out
     have hns66_2 := NB409_392.out
     have hms66_1 := NB392_404.out
     have hms66_2 := NB392_409.out
     have hs67 : w55.cell? ⟨gb392, 10, none⟩ = some (.bool false) := (blk_cell BK392.out 10).trans rfl
     have hfs67 := blk_frozen BK392.out 10
     have hns67_1 := NB404_392.out
     have hns67_2 := NB409_392.out
     have hms67_1 := NB392_404.out
     have hms67_2 := NB392_409.out
     have hs68 : w55.cell? ⟨gb392, 11, none⟩ = some (.int .u64 0) := (blk_cell BK392.out 11).trans rfl
     have hfs68 := blk_frozen BK392.out 11
     have hns68_1 := NB404_392.out
     have hns68_2 := NB409_392.out
     have hms68_1 := NB392_404.out
     have hms68_2 := NB392_409.out
     have hs69 : w55.cell? ⟨gb392, 12, none⟩ = some (.int .u64 0) := (blk_cell BK392.out 12).trans rfl
     have hfs69 := blk_frozen BK392.out 12
     have hns69_1 := NB404_392.out
     have hns69_2 := NB409_392.out
     have hms69_1 := NB392_404.out
     have hms69_2 := NB392_409.out
     have hs70 : w55.cell? ⟨gb392, 13, none⟩ = some (.slice none 0 0) := (blk_cell BK392.out 13).trans rfl
     have hfs70 := blk_frozen BK392.out 13
     have hns70_1 := NB404_392.out
     have hns70_2 := NB409_392.out
     have hms70_1 := NB392_404.out
     have hms70_2 := NB392_409.out
     have hs71 : w55.cell? ⟨gb392, 14, none⟩ = some (.string (⟨#[]⟩ : ByteArray)) := (blk_cell BK392.out 14).trans rfl
     have hfs71 := blk_frozen BK392.out 14
     have hns71_1 := NB404_392.out
     have hns71_2 := NB409_392.out
     have hms71_1 := NB392_404.out
     have hms71_2 := NB392_409.out
     refine skip_ (w1 := ?_) (by rfl) rfl ?_ ?_
     rotate_left
     ·go_simp
      rfl
     refine hK.out _ _ ⟨((cell_far (p := ⟨gb392, _, none⟩) NB404_392.out _).trans (((cell_far (p := ⟨gb392, _, none⟩) NB404_392.out _).trans (((cell_far (p := ⟨gb392, _, none⟩) NB404_392.out _).trans (((cell_far (p := ⟨gb392, _, none⟩) NB404_392.out _).trans (((cell_far (p := ⟨gb392, _, none⟩) NB404_392.out _).trans (((cell_far (p := ⟨gb392, _, none⟩) NB404_392.out _).trans (((cell_far (p := ⟨gb392, _, none⟩) NB404_392.out _).trans (((cell_far (p := ⟨gb392, _, none⟩) NB404_392.out _).trans (((cell_far (p := ⟨gb392, _, none⟩) NB404_392.out _).trans (((cell_far (p := ⟨gb392, _, none⟩) NB404_392.out _).trans (((cell_far (p := ⟨gb392, _, none⟩) NB404_392.out _).trans (((cell_far (p := ⟨gb392, _, none⟩) NB404_392.out _).trans (((cell_far (p := ⟨gb392, _, none⟩) NB404_392.out _).trans (((cell_far (p := ⟨gb392, _, none⟩) NB404_392.out _).trans (kF NB404_392.out hHeld.1)))))))))))))))))))))))))))), ((cell_far (p := ⟨gb392, _, none⟩) NB404_392.out _).trans (((cell_far (p := ⟨gb392, _, none⟩) NB404_392.out _).trans (((cell_far (p := ⟨gb392, _, none⟩) NB404_392.out _).trans (((cell_far (p := ⟨gb392, _, none⟩) NB404_392.out _).trans (((cell_far (p := ⟨gb392, _, none⟩) NB404_392.out _).trans (((cell_far (p := ⟨gb392, _, none⟩) NB404_392.out _).trans (((cell_far (p := ⟨gb392, _, none⟩) NB404_392.out _).trans (((cell_far (p := ⟨gb392, _, none⟩) NB404_392.out _).trans (((cell_far (p := ⟨gb392, _, none⟩) NB404_392.out _).trans (((cell_far (p := ⟨gb392, _, none⟩) NB404_392.out _).trans (((cell_far (p := ⟨gb392, _, none⟩) NB404_392.out _).trans (((cell_far (p := ⟨gb392, _, none⟩) NB404_392.out _).trans (((cell_far (p := ⟨gb392, _, none⟩) NB404_392.out _).trans (((cell_far (p := ⟨gb392, _, none⟩) NB404_392.out _).trans (kF NB404_392.out hHeld.2.1)))))))))))))))))))))))))))), ((cell_far (p := ⟨gb392, _, none⟩) NB404_392.out _).trans (((cell_far (p := ⟨gb392, _, none⟩) NB404_392.out _).trans (((cell_far (p := ⟨gb392, _, none⟩) NB404_392.out _).trans (((cell_far (p := ⟨gb392, _, none⟩) NB404_392.out _).trans (((cell_far (p := ⟨gb392, _, none⟩) NB404_392.out _).trans (((cell_far (p := ⟨gb392, _, none⟩) NB404_392.out _).trans (((cell_far (p := ⟨gb392, _, none⟩) NB404_392.out _).trans (((cell_far (p := ⟨gb392, _, none⟩) NB404_392.out _).trans (((cell_far (p := ⟨gb392, _, none⟩) NB404_392.out _).trans (((cell_far (p := ⟨gb392, _, none⟩) NB404_392.out _).trans (((cell_far (p := ⟨gb392, _, none⟩) NB404_392.out _).trans (((cell_far (p := ⟨gb392, _, none⟩) NB404_392.out _).trans (((cell_far (p := ⟨gb392, _, none⟩) NB404_392.out _).trans (((cell_far (p := ⟨gb392, _, none⟩) NB404_392.out _).trans (kF NB404_392.out hHeld.2.2.1)))))))))))))))))))))))))))), ((cell_far (p := ⟨gb392, _, none⟩) NB409_392.out _).trans (((cell_far (p := ⟨gb392, _, none⟩) NB409_392.out _).trans (((cell_far (p := ⟨gb392, _, none⟩) NB409_392.out _).trans (((cell_far (p := ⟨gb392, _, none⟩) NB409_392.out _).trans (((cell_far (p := ⟨gb392, _, none⟩) NB409_392.out _).trans (((cell_far (p := ⟨gb392, _, none⟩) NB409_392.out _).trans (((cell_far (p := ⟨gb392, _, none⟩) NB409_392.out _).trans (((cell_far (p := ⟨gb392, _, none⟩) NB409_392.out _).trans (((cell_far (p := ⟨gb392, _, none⟩) NB409_392.out _).trans (((cell_far (p := ⟨gb392, _, none⟩) NB409_392.out _).trans (((cell_far (p := ⟨gb392, _, none⟩) NB409_392.out _).trans (((cell_far (p := ⟨gb392, _, none⟩) NB409_392.out _).trans (((cell_far (p := ⟨gb392, _, none⟩) NB409_392.out _).trans (((cell_far (p := ⟨gb392, _, none⟩) NB409_392.out _).trans (kF NB409_392.out hHeld.2.2.2.1)))))))))))))))))))))))))))), ((cell_far (p := ⟨gb392, _, none⟩) NB409_392.out _).trans (((cell_far (p := ⟨gb392, _, none⟩) NB409_392.out _).trans (((cell_far (p := ⟨gb392, _, none⟩) NB409_392.out _).trans (((cell_far (p := ⟨gb392, _, none⟩) NB409_392.out _).trans (((cell_far (p := ⟨gb392, _, none⟩) NB409_392.out _).trans (((cell_far (p := ⟨gb392, _, none⟩) NB409_392.out _).trans (((cell_far (p := ⟨gb392, _, none⟩) NB409_392.out _).trans (((cell_far (p := ⟨gb392, _, none⟩) NB409_392.out _).trans (((cell_far (p := ⟨gb392, _, none⟩) NB409_392.out _).trans (((cell_far (p := ⟨gb392, _, none⟩) NB409_392.out _).trans (((cell_far (p := ⟨gb392, _, none⟩) NB409_392.out _).trans (((cell_far (p := ⟨gb392, _, none⟩) NB409_392.out _).trans (((cell_far (p := ⟨gb392, _, none⟩) NB409_392.out _).trans (((cell_far (p := ⟨gb392, _, none⟩) NB409_392.out _).trans (kF NB409_392.out hHeld.2.2.2.2.1)))))))))))))))))))))))))))), ((cell_far (p := ⟨gb392, _, none⟩) NB409_392.out _).trans (((cell_far (p := ⟨gb392, _, none⟩) NB409_392.out _).trans (((cell_far (p := ⟨gb392, _, none⟩) NB409_392.out _).trans (((cell_far (p := ⟨gb392, _, none⟩) NB409_392.out _).trans (((cell_far (p := ⟨gb392, _, none⟩) NB409_392.out _).trans (((cell_far (p := ⟨gb392, _, none⟩) NB409_392.out _).trans (((cell_far (p := ⟨gb392, _, none⟩) NB409_392.out _).trans (((cell_far (p := ⟨gb392, _, none⟩) NB409_392.out _).trans (((cell_far (p := ⟨gb392, _, none⟩) NB409_392.out _).trans (((cell_far (p := ⟨gb392, _, none⟩) NB409_392.out _).trans (((cell_far (p := ⟨gb392, _, none⟩) NB409_392.out _).trans (((cell_far (p := ⟨gb392, _, none⟩) NB409_392.out _).trans (((cell_far (p := ⟨gb392, _, none⟩) NB409_392.out _).trans (((cell_far (p := ⟨gb392, _, none⟩) NB409_392.out _).trans (kF NB409_392.out hHeld.2.2.2.2.2))))))))))))))))))))))))))))⟩ (fun hHeld => ?_)
     clear hK K
     refine kP 31 3 #[I, I, I, I, I, I, I, I, I, I, I, I, I, I, I, I, I, I, I, I, I, I, I, I, I, I, I, I, I, I, I, I] ?_ (any_of HT_.out (by kernel_rfl))
     refine done_ (done_of HT_.out (by kernel_rfl)) ?_
     try go_wp2
     refine bodyPost_ret (results_ct rfl _ _ gb392 28 #[.int .i64 (wrap64 (bt a0 1)), .int .i64 t410, .int .i64 (wrap64 (bt a0 8)), .int .i64 (wrap64 (bt a0 9)), .bool ((Int.tmod (wrap64 (Int.tdiv t399 16384)) 2) == 1), .bool ((Int.tmod (wrap64 (Int.tdiv t399 8192)) 2) == 1), .int .i64 (wrap64 ((Int.tmod t399 8192) * 8)), .bool t400, .int .u64 t401, .int .u64 t402, .bool t405, .int .u64 t406, .int .u64 t407, .slice Ao56 t395.length co56, .string (a0.extract ((ji16) : Int).toNat (t393 : Int).toNat)] (0, 0) _ rfl (by refine kb ?_; exact blk_all_15 (kb BK392.out) (by rfl)) Try.underlying28 rfl (by kernel_rfl)) rfl ?_
     exact ⟨_, by first | rfl | (simp [errW_none, errW_some] <;> rfl) | (simp only [← hji16]; first | rfl | (simp [errW_none, errW_some] <;> rfl)) | (simp [*, errW_none, errW_some] <;> rfl), by (with_reducible repeat (first | apply Kd.R_alloc | apply Kd.R_drewN | apply Kd.R_drew)); exact Kd.R_mono (Kd.R_puts_0_15 gb392 (.int .i64 (wrap64 (bt a0 1))) (.int .i64 t410) (.int .i64 (wrap64 (bt a0 8))) (.int .i64 (wrap64 (bt a0 9))) (.bool ((Int.tmod (wrap64 (Int.tdiv t399 16384)) 2) == 1)) (.bool ((Int.tmod (wrap64 (Int.tdiv t399 8192)) 2) == 1)) (.int .i64 (wrap64 ((Int.tmod t399 8192) * 8))) (.bool t400) (.int .u64 t401) (.int .u64 t402) (.bool t405) (.int .u64 t406) (.int .u64 t407) (.slice Ao56 t395.length co56) (.string (a0.extract ((ji16) : Int).toNat (t393 : Int).toNat)) (Kd.R_types HO_6.out BK392.out (by decide)) (fun _ hk => hk.2)) (fun _ hk => trivial), by exact kB3 HB.out GE392.out GE404.out GE409.out⟩
   rw [if_neg c20] at H
   have c20b0 : (t394 == 0) = false := beq_eq_false_iff_ne.mpr c20
   have c20b1 : (t394 != 0) = true := bne_iff_ne.mpr c20
   simp only [Option.some.injEq, Prod.mk.injEq] at H
   obtain ⟨rfl, rfl, rfl, rfl, rfl, rfl, rfl, rfl, rfl, rfl, rfl, rfl, rfl, rfl, rfl, rfl⟩ := H
   go_wp2_with (first | ((with_reducible refine gate_callee (f := 31) rfl ?_); refine goesL_ (some 51) rfl rfl Try.func31 (by kernel_rfl) rfl #[.string (a0.extract 0 ((ji16) : Int).toNat)] rfl (by (try simp only [List.map_toArray, List.map_cons, List.map_nil]); first | done | (simp only [hji16]; rfl) | rfl | (simp only [List.length_drop, List.length_take]; rfl)) ?_; (with_reducible refine (intrusionref02_Sum.calls kj11 (a0.extract 0 ((ji16) : Int).toNat) t394 _ A19.out).mono ?_); rintro e w' ⟨rfl, ⟨nd, rfl⟩⟩; refine ⟨_, rfl, ?_⟩; (try (rw [drewN_self wc]; generalize hq_ : World.drewN wc _ = wc; have n0_ : Aside0 (wc.heap[gb392]? = some (.cells #[.int .i64 0, .int .i64 0, .int .i64 0, .int .i64 0, .bool false, .bool false, .int .i64 0, .bool false, .int .u64 0, .int .u64 0, .bool false, .int .u64 0, .int .u64 0, .slice none 0 0, .string (⟨#[]⟩ : ByteArray)] 28 (0, 0))) := ⟨by rw [← hq_]; exact (kb BK392.out)⟩; have n1_ : Aside0 (Below w.heap.size w wc) := ⟨by rw [← hq_]; exact (kB1 HB.out GE392.out)⟩; clear BK392 HB hq_; have BK392 := n0_; have HB := n1_; clear n0_ n1_))) | ((with_reducible refine gate_store (t := 28) (p := 2) rfl ?_); refine store_rowev_15 gb392 (.int .i64 0) (.int .i64 0) (.int .i64 0) (.int .i64 0) (.bool false) (.bool false) (.int .i64 0) (.bool false) (.int .u64 0) (.int .u64 0) (.bool false) (.int .u64 0) (.int .u64 0) (.slice none 0 0) (.string (⟨#[]⟩ : ByteArray)) rfl (t := 28) (p := 2) (v := _) rfl rfl rfl rfl (t' := 28) (kb BK392.out) (by rfl) (by kernel_rfl) (by rfl) ?_))
   refine bodyPost_ret (results_ct rfl _ _ gb392 28 #[.int .i64 0, .int .i64 0, .int .i64 0, .int .i64 0, .bool false, .bool false, .int .i64 0, .bool false, .int .u64 0, .int .u64 0, .bool false, .int .u64 0, .int .u64 0, .slice none 0 0, .string (⟨#[]⟩ : ByteArray)] (0, 0) _ rfl (by refine kb ?_; exact blk_all_15 (kb BK392.out) (by rfl)) Try.underlying28 rfl (by kernel_rfl)) rfl ?_
   exact ⟨_, by first | rfl | (simp [errW_none, errW_some] <;> rfl) | (simp only [← hji16]; first | rfl | (simp [errW_none, errW_some] <;> rfl)) | (simp [*, errW_none, errW_some] <;> rfl), by first | exact Kd.R_nil _ _ _ _ _ | exact Kd.N_nil _ _ _ _ _ | exact Kd.V_nil _ _ _ _ _ | exact Kd.Q_nil _ _ _ _ _ | exact Kd.S_nil _ _ _ _ _, by exact kB1 HB.out GE392.out⟩

end Go.Proofs.Ytobioaommmgehaa.X
-- short
-- short2
