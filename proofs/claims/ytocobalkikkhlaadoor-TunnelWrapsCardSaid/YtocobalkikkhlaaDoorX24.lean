/- Functions and their walks, printed by xprint.py. -/
import Derived.Test.YtocobalkikkhlaaDoorX0
import Derived.Test.YtocobalkikkhlaaDoorX2
import Derived.Test.YtocobalkikkhlaaDoorX11
import Derived.Test.YtocobalkikkhlaaDoorX12
import Derived.Test.YtocobalkikkhlaaDoorX15
import Derived.Test.YtocobalkikkhlaaDoorX17
import Derived.Test.YtocobalkikkhlaaDoorX22
import Derived.Test.YtocobalkikkhlaaDoorX23
namespace Go.Proofs.YtocobalkikkhlaaDoor.X
open Go.RowKit Go.Proofs.YtocobalkikkhlaaDoorW.PrintWords Go.Proofs.YtocobalkikkhlaaDoorW.PrintLast Go.Proofs.YtocobalkikkhlaaDoorW.PrintMore
attribute [local go_sem] max2_int min2_int max_two min_two max_three min_three max_four min_four   -- for this text's walks alone
set_option linter.unusedVariables false
set_option linter.unusedSimpArgs false

attribute [local go_sem high] eqA30
/-! ### intrusionref17_WrapVxlan: function 25 -/
def intrusionref17_WrapVxlan.j0 : Nat → Int → ByteArray → Bool → Bool → Int → Int → Bool → Int → Int → Option (Bool × Int × Int × Bool × Int × Int × Int × Int × ByteArray × Int)
 | 0, _, _, _, _, _, _, _, _, _ => none
 | k + 1, x2, x3, x22, x497000, x497001, x497002, x498000, x498001, x498002 => if x22 = true then (some (false, 0, 0, false, 0, 0, 0, 0, (⟨#[]⟩ : ByteArray), 4)) else (if (x3.size : Int) > 65000 then (some (false, 0, 0, false, 0, 0, 0, 0, (⟨#[]⟩ : ByteArray), 3)) else ((intrusionref01_Put.f k x2 3).bind fun t500 => (if 4 + t500.size ≤ 9223372036854775807 then (if ((⟨#[8, 0, 0, 0]⟩ : ByteArray) ++ t500).size + 1 ≤ 9223372036854775807 then (if (((⟨#[8, 0, 0, 0]⟩ : ByteArray) ++ t500) ++ (⟨#[0]⟩ : ByteArray)).size + x3.size ≤ 9223372036854775807 then ((intrusionref13_Encode.f k x497000 x497001 x497002 x498000 x498001 x498002 49152 4789 ((((⟨#[8, 0, 0, 0]⟩ : ByteArray) ++ t500) ++ (⟨#[0]⟩ : ByteArray)) ++ x3)).bind fun bt501 => ((intrusionref17_made.f x497000 x497001 x497002 x498000 x498001 x498002 17 bt501.1).bind fun bt503 => (some (bt503.1, bt503.2.1, bt503.2.2.1, bt503.2.2.2.1, bt503.2.2.2.2.1, bt503.2.2.2.2.2.1, bt503.2.2.2.2.2.2.1, bt503.2.2.2.2.2.2.2.1, bt503.2.2.2.2.2.2.2.2.1, bt503.2.2.2.2.2.2.2.2.2)))) else (none)) else (none)) else (none))))
def intrusionref17_WrapVxlan.f (k : Nat) (b0 : Bool) (b1 : Int) (b2 : Int) (d0 : Bool) (d1 : Int) (d2 : Int) (a2 : Int) (a3 : ByteArray) : Option (Bool × Int × Int × Bool × Int × Int × Int × Int × ByteArray × Int) := (intrusionref17_family.f b0 b1 b2 d0 d1 d2).bind fun t499 => (if t499 = true then (if a2 < 0 then (intrusionref17_WrapVxlan.j0 k a2 a3 true b0 b1 b2 d0 d1 d2) else (intrusionref17_WrapVxlan.j0 k a2 a3 (decide (a2 > 16777215)) b0 b1 b2 d0 d1 d2)) else (some (false, 0, 0, false, 0, 0, 0, 0, (⟨#[]⟩ : ByteArray), 13)))
theorem intrusionref17_WrapVxlan.mono_l : ∀ k, (∀ y0 y1 y2 y3 y4 y5 y6 y7 y8, LeO (intrusionref17_WrapVxlan.j0 k y0 y1 y2 y3 y4 y5 y6 y7 y8) (intrusionref17_WrapVxlan.j0 (k + 1) y0 y1 y2 y3 y4 y5 y6 y7 y8))
 | 0 => fun _ _ _ _ _ _ _ _ _ r h => by simp [intrusionref17_WrapVxlan.j0] at h
 | k + 1 => by
  have ih0 := intrusionref17_WrapVxlan.mono_l k
  intro y0 y1 y2 y3 y4 y5 y6 y7 y8
  unfold intrusionref17_WrapVxlan.j0
  repeat' first | with_reducible first | apply ih0 | apply intrusionref01_Put.mono | apply intrusionref13_Encode.mono | apply LeO.refl | apply LeO.none | refine LeO.ite ?_ ?_ | refine LeO.bind ?_ (fun _ => ?_)
theorem intrusionref17_WrapVxlan.mono : ∀ a0 a1 a2 a3 a4 a5 a6 a7 k, LeO (intrusionref17_WrapVxlan.f k a0 a1 a2 a3 a4 a5 a6 a7) (intrusionref17_WrapVxlan.f (k + 1) a0 a1 a2 a3 a4 a5 a6 a7) := by
 intro a0 a1 a2 a3 a4 a5 a6 a7 k
 have ih0 := intrusionref17_WrapVxlan.mono_l k
 unfold intrusionref17_WrapVxlan.f
 repeat' first | with_reducible first | apply ih0 | apply intrusionref01_Put.mono | apply intrusionref13_Encode.mono | apply LeO.refl | apply LeO.none | refine LeO.ite ?_ ?_ | refine LeO.bind ?_ (fun _ => ?_)
def intrusionref17_WrapVxlan.T7 : Bool × List (List Nat × List Nat) := (true, [([], []), ([], []), ([], []), ([2], [2]), ([3], [3]), ([4], [4]), ([], []), ([5, 6], [5, 6]), ([7], [7]), ([0, 1, 8, 3], [0, 1, 8]), ([9], [9]), ([10], [10]), ([10], [10]), ([11, 9, 0, 1, 2, 3, 4, 5, 6, 7, 8, 9, 10, 11], [11]), ([12, 13, 0, 1, 2, 3, 4, 5, 6, 7, 8, 9, 10, 11, 12, 13], [12])])
def intrusionref17_WrapVxlan.B7 : List Nat := [0, 0, 0, 4, 12, 28, 0, 124, 252, 511, 1023, 2047, 2047, 4095, 16383]
theorem intrusionref17_WrapVxlan.tab7 : rtab .any (opsOf Tryd.f25 7) = intrusionref17_WrapVxlan.T7 := by kernel_rfl
theorem intrusionref17_WrapVxlan.bits7 : waitsOk intrusionref17_WrapVxlan.T7.2 intrusionref17_WrapVxlan.B7 = true := by kernel_rfl
set_option maxHeartbeats 8000000 in
set_option maxRecDepth 100000 in
theorem intrusionref17_WrapVxlan.calls (k : Nat) (b0 : Bool) (b1 : Int) (b2 : Int) (d0 : Bool) (d1 : Int) (d2 : Int) (a2 : Int) (a3 : ByteArray) (r1 : Bool) (r2 : Int) (r3 : Int) (r4 : Bool) (r5 : Int) (r6 : Int) (r7 : Int) (r8 : Int) (r9 : ByteArray) (r10 : Int) (w : World) (h : intrusionref17_WrapVxlan.f k b0 b1 b2 d0 d1 d2 a2 a3 = some (r1, r2, r3, r4, r5, r6, r7, r8, r9, r10)) :
  Calls Tryd.prog 25 #[.agg #[.bool b0, .int .u64 b1, .int .u64 b2], .agg #[.bool d0, .int .u64 d1, .int .u64 d2], .int .i64 a2, .string a3] w fun e w' => e = .returned (.tuple #[.agg #[.bool r1, .int .u64 r2, .int .u64 r3, .bool r4, .int .u64 r5, .int .u64 r6, .int .i64 r7, .int .i64 r8, .string r9], .int .i64 r10]) ∧ Below w.heap.size w w' := by
 have hu24 := Tryd.underlying24
 have hu30 := Tryd.underlying30
 have hu85 := Tryd.underlying85
 have HB := As (Below.refl w.heap.size w)
 have H : ((intrusionref17_family.f b0 b1 b2 d0 d1 d2).bind fun t499 => (if t499 = true then (if a2 < 0 then (intrusionref17_WrapVxlan.j0 k a2 a3 true b0 b1 b2 d0 d1 d2) else (intrusionref17_WrapVxlan.j0 k a2 a3 (decide (a2 > 16777215)) b0 b1 b2 d0 d1 d2)) else (some (false, 0, 0, false, 0, 0, 0, 0, (⟨#[]⟩ : ByteArray), 13)))) = some (r1, r2, r3, r4, r5, r6, r7, r8, r9, r10) := h
 clear h
 replace H := Option.bind_eq_some_iff.mp H
 obtain ⟨t499, A50, H⟩ := H
 replace H : (if t499 = true then (if a2 < 0 then (intrusionref17_WrapVxlan.j0 k a2 a3 true b0 b1 b2 d0 d1 d2) else (intrusionref17_WrapVxlan.j0 k a2 a3 (decide (a2 > 16777215)) b0 b1 b2 d0 d1 d2)) else (some (false, 0, 0, false, 0, 0, 0, 0, (⟨#[]⟩ : ByteArray), 13))) = some (r1, r2, r3, r4, r5, r6, r7, r8, r9, r10) := H
 have A5 := As A50
 clear A50
 by_cases c6 : t499 = true
 ·subst c6
  have H1 : (if a2 < 0 then (intrusionref17_WrapVxlan.j0 k a2 a3 true b0 b1 b2 d0 d1 d2) else (intrusionref17_WrapVxlan.j0 k a2 a3 (decide (a2 > 16777215)) b0 b1 b2 d0 d1 d2)) = some (r1, r2, r3, r4, r5, r6, r7, r8, r9, r10) := by rw [if_pos rfl] at H; exact H
  clear H
  have H := H1
  clear H1
  have HC7 := As H
  clear H
  go_enter Tryd.func25, Tryd.ntmps25
  go_upto_region 3 with (first | ((with_reducible refine gate_dst (N := 4) rfl ?_); refine box_event rfl (N := 4) rfl (cs := #[.bool b0, .int .u64 b1, .int .u64 b2]) (t := 24) kG ?_; intro gb496 hg w8 hbox hb; have BK496 := As (hbox); have GW496 := As ((by rw [hg]; exact (below_size (kB HB.out)) : w.heap.size ≤ gb496)); have GE496 := As ((by rw [hg]; exact (below_size (kB HB.out)) : w.heap.size ≤ gb496)); replace HB := As (below_step (kB HB.out) hb); clear hb hbox hg) | ((with_reducible refine gate_dst (N := 5) rfl ?_); refine box_event rfl (N := 5) rfl (cs := #[.bool d0, .int .u64 d1, .int .u64 d2]) (t := 24) kG ?_; intro gb497 hg w9 hbox hb; have BK497 := As (hbox); have GW497 := As ((by rw [hg]; exact (below_size (kB1 HB.out GE496.out)) : w.heap.size ≤ gb497)); have GE497 := As ((by rw [hg]; exact (below_size (kB1 HB.out GE496.out)) : w.heap.size ≤ gb497)); replace HB := As (below_step (kB1 HB.out GE496.out) hb); have NB496_497 := As ((by rw [hg]; exact Nat.ne_of_lt (blk_lt (kb BK496.out)) : gb496 ≠ gb497)); have NB497_496 := As ((by rw [hg]; exact Nat.ne_of_gt (blk_lt (kb BK496.out)) : gb497 ≠ gb496)); replace BK496 := As (blk_below (kb BK496.out) hb); clear hb hbox hg) | ((with_reducible refine gate_dst (N := 8) rfl ?_); refine box_event rfl (N := 8) rfl (cs := #[.bool false, .int .u64 0, .int .u64 0, .bool false, .int .u64 0, .int .u64 0, .int .i64 0, .int .i64 0, .string (⟨#[]⟩ : ByteArray)]) (t := 30) kG ?_; intro gb498 hg w10 hbox hb; have BK498 := As (hbox); have GW498 := As ((by rw [hg]; exact (below_size (kB2 HB.out GE496.out GE497.out)) : w.heap.size ≤ gb498)); have GE498 := As ((by rw [hg]; exact (below_size (kB2 HB.out GE496.out GE497.out)) : w.heap.size ≤ gb498)); replace HB := As (below_step (kB2 HB.out GE496.out GE497.out) hb); have NB496_498 := As ((by rw [hg]; exact Nat.ne_of_lt (blk_lt (kb BK496.out)) : gb496 ≠ gb498)); have NB498_496 := As ((by rw [hg]; exact Nat.ne_of_gt (blk_lt (kb BK496.out)) : gb498 ≠ gb496)); replace BK496 := As (blk_below (kb BK496.out) hb); have NB497_498 := As ((by rw [hg]; exact Nat.ne_of_lt (blk_lt (kb BK497.out)) : gb497 ≠ gb498)); have NB498_497 := As ((by rw [hg]; exact Nat.ne_of_gt (blk_lt (kb BK497.out)) : gb498 ≠ gb497)); replace BK497 := As (blk_below (kb BK497.out) hb); clear hb hbox hg; have hnb11 := NB496_497.out; have hnc11 := NB497_496.out; have hnb12 := NB496_498.out; have hnc12 := NB498_496.out; have hcz13_0 := cells_3 BK496.out; have hfz13_0 := fun j_ => blk_frozen BK496.out j_; have hnb14 := NB497_498.out; have hnc14 := NB498_497.out; have hcz15_0 := cells_3 BK497.out; have hfz15_0 := fun j_ => blk_frozen BK497.out j_) | ((with_reducible refine gate_callee (f := 30) rfl ?_); refine goesL_ (some 14) rfl rfl Tryd.func30 (by kernel_rfl) rfl #[.agg #[.bool b0, .int .u64 b1, .int .u64 b2], .agg #[.bool d0, .int .u64 d1, .int .u64 d2]] rfl kA ?_; (with_reducible refine (intrusionref17_family.calls b0 b1 b2 d0 d1 d2 true _ A5.out).mono ?_); rintro e w16 ⟨rfl, hb⟩; refine ⟨_, rfl, ?_⟩; replace BK496 := As (blk_below (kb BK496.out) hb); replace BK497 := As (blk_below (kb BK497.out) hb); replace BK498 := As (blk_below (kb BK498.out) hb); replace HB := As (below_step (kB3 HB.out GE496.out GE497.out GE498.out) hb); (try clear hb)))
  (try simp only [Act.put, sA, sZ, sS])
  go_cut [22] (fun v22 wc => ∃ (kq : Nat) (x22_6 : Bool), v22 = .bool x22_6 ∧ Aside0 (intrusionref17_WrapVxlan.j0 kq a2 a3 x22_6 b0 b1 b2 d0 d1 d2 = some (r1, r2, r3, r4, r5, r6, r7, r8, r9, r10)) ∧ Aside0 (kq ≤ k) ∧ Aside0 (wc.heap[gb496]? = some (.cells #[.bool b0, .int .u64 b1, .int .u64 b2] 24 (0, 0))) ∧ Aside0 (wc.heap[gb497]? = some (.cells #[.bool d0, .int .u64 d1, .int .u64 d2] 24 (0, 0))) ∧ Aside0 (wc.heap[gb498]? = some (.cells #[.bool false, .int .u64 0, .int .u64 0, .bool false, .int .u64 0, .int .u64 0, .int .i64 0, .int .i64 0, .string (⟨#[]⟩ : ByteArray)] 30 (0, 0))) ∧ Aside0 (Below w.heap.size w wc))
  case first =>
   have H := HC7.out
   clear HC7
   by_cases c17 : a2 < 0
   ·rw [if_pos c17] at H
    have c17b0 : decide (a2 < 0) = true := decide_eq_true c17
    clear c17
    (first | rw [c17b0] | (simp only [i64_w, i32_w]; rw [c17b0]) | skip)
    have H' := As H
    clear H
    go_wp2
    go_meet
    case rel => exact ⟨_, (true), kS, H', ⟨by first | omega | exact Nat.le_refl _⟩, ⟨kb BK496.out⟩, ⟨kb BK497.out⟩, ⟨kb BK498.out⟩, ⟨kB3 HB.out GE496.out GE497.out GE498.out⟩⟩
   rw [if_neg c17] at H
   have c17b0 : decide (a2 < 0) = false := decide_eq_false c17
   clear c17
   (first | rw [c17b0] | (simp only [i64_w, i32_w]; rw [c17b0]) | skip)
   have H' := As H
   clear H
   go_wp2
   go_meet
   case rel => exact ⟨_, (decide (a2 > 16777215)), kS, H', ⟨by first | omega | exact Nat.le_refl _⟩, ⟨kb BK496.out⟩, ⟨kb BK497.out⟩, ⟨kb BK498.out⟩, ⟨kB3 HB.out GE496.out GE497.out GE498.out⟩⟩
  clear HC7
  try clear c6
  try clear hcz13_0
  try clear hcz15_0
  try clear hfz13_0
  try clear hfz15_0
  obtain ⟨kq, x22_6, rfl, HA, HJ6, BK496, BK497, BK498, HB⟩ := hcut
  cases kq with
  | zero => exact absurd HA.out (by simp [intrusionref17_WrapVxlan.j0])
  | succ kj6 =>
   have H := HA.out
   clear HA
   simp only [intrusionref17_WrapVxlan.j0] at H
   by_cases c18 : x22_6 = true
   ·subst c18
    have H1 : (some (false, 0, 0, false, 0, 0, 0, 0, (⟨#[]⟩ : ByteArray), 4)) = some (r1, r2, r3, r4, r5, r6, r7, r8, r9, r10) := by rw [if_pos rfl] at H; exact H
    clear H
    have H := H1
    clear H1
    simp only [Option.some.injEq, Prod.mk.injEq] at H
    obtain ⟨rfl, rfl, rfl, rfl, rfl, rfl, rfl, rfl, rfl, rfl⟩ := H
    go_wp2_with (first | ((with_reducible refine gate_store (t := 30) (p := 8) rfl ?_); refine store_rowev_9 gb498 (.bool false) (.int .u64 0) (.int .u64 0) (.bool false) (.int .u64 0) (.int .u64 0) (.int .i64 0) (.int .i64 0) (.string (⟨#[]⟩ : ByteArray)) rfl (t := 30) (p := 8) (v := _) rfl rfl rfl rfl (t' := 30) (kb BK498.out) (by rfl) (by kernel_rfl) (by rfl) ?_))
    refine bodyPost_ret (results_ct rfl _ _ gb498 30 #[.bool false, .int .u64 0, .int .u64 0, .bool false, .int .u64 0, .int .u64 0, .int .i64 0, .int .i64 0, .string (⟨#[]⟩ : ByteArray)] (0, 0) _ rfl (by refine kb ?_; exact blk_all_9 (kb BK498.out) (by rfl)) Tryd.underlying30 rfl (by kernel_rfl)) rfl ?_
    exact ⟨kE, by exact kB3 HB.out GE496.out GE497.out GE498.out⟩
   replace c18 := Bool.eq_false_iff.mpr c18
   subst c18
   have H1 : (if (a3.size : Int) > 65000 then (some (false, 0, 0, false, 0, 0, 0, 0, (⟨#[]⟩ : ByteArray), 3)) else ((intrusionref01_Put.f kj6 a2 3).bind fun t500 => (if 4 + t500.size ≤ 9223372036854775807 then (if ((⟨#[8, 0, 0, 0]⟩ : ByteArray) ++ t500).size + 1 ≤ 9223372036854775807 then (if (((⟨#[8, 0, 0, 0]⟩ : ByteArray) ++ t500) ++ (⟨#[0]⟩ : ByteArray)).size + a3.size ≤ 9223372036854775807 then ((intrusionref13_Encode.f kj6 b0 b1 b2 d0 d1 d2 49152 4789 ((((⟨#[8, 0, 0, 0]⟩ : ByteArray) ++ t500) ++ (⟨#[0]⟩ : ByteArray)) ++ a3)).bind fun bt501 => ((intrusionref17_made.f b0 b1 b2 d0 d1 d2 17 bt501.1).bind fun bt503 => (some (bt503.1, bt503.2.1, bt503.2.2.1, bt503.2.2.2.1, bt503.2.2.2.2.1, bt503.2.2.2.2.2.1, bt503.2.2.2.2.2.2.1, bt503.2.2.2.2.2.2.2.1, bt503.2.2.2.2.2.2.2.2.1, bt503.2.2.2.2.2.2.2.2.2)))) else (none)) else (none)) else (none)))) = some (r1, r2, r3, r4, r5, r6, r7, r8, r9, r10) := by rw [if_neg (show ¬ (false = true) by decide)] at H; exact H
   clear H
   have H := H1
   clear H1
   by_cases c19 : (a3.size : Int) > 65000
   ·rw [if_pos c19] at H
    have c19b0 : decide (65000 < (a3.size : Int)) = true := decide_eq_true c19
    have c19b1 : decide (65000 < a3.size) = true := decide_eq_true (by omega)
    clear c19
    simp only [Option.some.injEq, Prod.mk.injEq] at H
    obtain ⟨rfl, rfl, rfl, rfl, rfl, rfl, rfl, rfl, rfl, rfl⟩ := H
    go_wp2_with (first | ((with_reducible refine gate_store (t := 30) (p := 8) rfl ?_); refine store_rowev_9 gb498 (.bool false) (.int .u64 0) (.int .u64 0) (.bool false) (.int .u64 0) (.int .u64 0) (.int .i64 0) (.int .i64 0) (.string (⟨#[]⟩ : ByteArray)) rfl (t := 30) (p := 8) (v := _) rfl rfl rfl rfl (t' := 30) (kb BK498.out) (by rfl) (by kernel_rfl) (by rfl) ?_))
    refine bodyPost_ret (results_ct rfl _ _ gb498 30 #[.bool false, .int .u64 0, .int .u64 0, .bool false, .int .u64 0, .int .u64 0, .int .i64 0, .int .i64 0, .string (⟨#[]⟩ : ByteArray)] (0, 0) _ rfl (by refine kb ?_; exact blk_all_9 (kb BK498.out) (by rfl)) Tryd.underlying30 rfl (by kernel_rfl)) rfl ?_
    exact ⟨kE, by exact kB3 HB.out GE496.out GE497.out GE498.out⟩
   rw [if_neg c19] at H
   have c19b0 : decide (65000 < (a3.size : Int)) = false := decide_eq_false c19
   have c19b1 : decide (65000 < a3.size) = false := decide_eq_false (by omega)
   clear c19
   replace H := Option.bind_eq_some_iff.mp H
   obtain ⟨t500, A200, H⟩ := H
   replace H : (if 4 + t500.size ≤ 9223372036854775807 then (if ((⟨#[8, 0, 0, 0]⟩ : ByteArray) ++ t500).size + 1 ≤ 9223372036854775807 then (if (((⟨#[8, 0, 0, 0]⟩ : ByteArray) ++ t500) ++ (⟨#[0]⟩ : ByteArray)).size + a3.size ≤ 9223372036854775807 then ((intrusionref13_Encode.f kj6 b0 b1 b2 d0 d1 d2 49152 4789 ((((⟨#[8, 0, 0, 0]⟩ : ByteArray) ++ t500) ++ (⟨#[0]⟩ : ByteArray)) ++ a3)).bind fun bt501 => ((intrusionref17_made.f b0 b1 b2 d0 d1 d2 17 bt501.1).bind fun bt503 => (some (bt503.1, bt503.2.1, bt503.2.2.1, bt503.2.2.2.1, bt503.2.2.2.2.1, bt503.2.2.2.2.2.1, bt503.2.2.2.2.2.2.1, bt503.2.2.2.2.2.2.2.1, bt503.2.2.2.2.2.2.2.2.1, bt503.2.2.2.2.2.2.2.2.2)))) else (none)) else (none)) else (none)) = some (r1, r2, r3, r4, r5, r6, r7, r8, r9, r10) := H
   have A20 := As A200
   clear A200
   by_cases c21 : 4 + t500.size ≤ 9223372036854775807
   ·rw [if_pos c21] at H
    have c21b0 := eq_true c21
    have c21b1 : decide (4 + t500.size ≤ 9223372036854775807) = true := decide_eq_true c21
    try have c21b2 : (9223372036854775807 < 4 + t500.size) = False := eq_false (Nat.not_lt.2 c21)
    by_cases c22 : ((⟨#[8, 0, 0, 0]⟩ : ByteArray) ++ t500).size + 1 ≤ 9223372036854775807
    ·rw [if_pos c22] at H
     have c22b0 := eq_true c22
     have c22b1 : decide (((⟨#[8, 0, 0, 0]⟩ : ByteArray) ++ t500).size + 1 ≤ 9223372036854775807) = true := decide_eq_true c22
     (try (have c22s0 : (9223372036854775807 < (4 + t500.size) + 1) = False := by have h_ := c22; have z0_ : (⟨#[8, 0, 0, 0]⟩ : ByteArray).size = 4 := rfl; simp only [ByteArray.size_append, ByteArray.size_extract] at h_; exact eq_false (by first | omega | (omega))))
     (try (have c22s1 : (9223372036854775807 < 4 + t500.size + 1) = False := by have h_ := c22; have z0_ : (⟨#[8, 0, 0, 0]⟩ : ByteArray).size = 4 := rfl; simp only [ByteArray.size_append, ByteArray.size_extract] at h_; exact eq_false (by first | omega | (omega))))
     (try (have c22s2 : ((4 + t500.size) + 1 ≤ 9223372036854775807) = True := by have h_ := c22; simp only [ByteArray.size_append, Int.natCast_add, Int.toNat_natCast] at h_; first | exact eq_true h_ | exact eq_true (by omega)))
     (try (have c22s3 : decide ((4 + t500.size) + 1 ≤ 9223372036854775807) = true := by have h_ := c22; first | (simp only [ByteArray.size_append, Int.toNat_natCast] at h_; first | exact beq_iff_eq.mpr h_ | exact beq_eq_false_iff_ne.mpr h_ | exact bne_iff_ne.mpr h_ | exact bne_eq_false_iff_eq.mpr h_ | (rw [beq_iff_eq.mpr h_]; rfl) | (rw [beq_eq_false_iff_ne.mpr h_]; rfl)) | (simp only [ByteArray.size_append, Int.natCast_add, Int.toNat_natCast] at h_ ⊢; first | exact h_ | simpa using h_ | simp [h_] | omega) | (simp only [ByteArray.size_append] at h_; simp at h_ ⊢; omega) | (simp only [ByteArray.size_append, Int.natCast_add, Int.toNat_natCast] at h_; simpa using h_)))
     try have c22b2 : (9223372036854775807 < ((⟨#[8, 0, 0, 0]⟩ : ByteArray) ++ t500).size + 1) = False := eq_false (Nat.not_lt.2 c22)
     by_cases c23 : (((⟨#[8, 0, 0, 0]⟩ : ByteArray) ++ t500) ++ (⟨#[0]⟩ : ByteArray)).size + a3.size ≤ 9223372036854775807
     ·rw [if_pos c23] at H
      have c23b0 := eq_true c23
      have c23b1 : decide ((((⟨#[8, 0, 0, 0]⟩ : ByteArray) ++ t500) ++ (⟨#[0]⟩ : ByteArray)).size + a3.size ≤ 9223372036854775807) = true := decide_eq_true c23
      (try (have c23s0 : (9223372036854775807 < (4 + t500.size + 1) + a3.size) = False := by have h_ := c23; have z0_ : (⟨#[0]⟩ : ByteArray).size = 1 := rfl; have z1_ : (⟨#[8, 0, 0, 0]⟩ : ByteArray).size = 4 := rfl; simp only [ByteArray.size_append, ByteArray.size_extract] at h_; exact eq_false (by first | omega | (omega))))
      (try (have c23s1 : (9223372036854775807 < 4 + t500.size + 1 + a3.size) = False := by have h_ := c23; have z0_ : (⟨#[0]⟩ : ByteArray).size = 1 := rfl; have z1_ : (⟨#[8, 0, 0, 0]⟩ : ByteArray).size = 4 := rfl; simp only [ByteArray.size_append, ByteArray.size_extract] at h_; exact eq_false (by first | omega | (omega))))
      (try (have c23s2 : ((4 + t500.size + 1) + a3.size ≤ 9223372036854775807) = True := by have h_ := c23; simp only [ByteArray.size_append, Int.natCast_add, Int.toNat_natCast] at h_; first | exact eq_true h_ | exact eq_true (by omega)))
      (try (have c23s3 : decide ((4 + t500.size + 1) + a3.size ≤ 9223372036854775807) = true := by have h_ := c23; first | (simp only [ByteArray.size_append, Int.toNat_natCast] at h_; first | exact beq_iff_eq.mpr h_ | exact beq_eq_false_iff_ne.mpr h_ | exact bne_iff_ne.mpr h_ | exact bne_eq_false_iff_eq.mpr h_ | (rw [beq_iff_eq.mpr h_]; rfl) | (rw [beq_eq_false_iff_ne.mpr h_]; rfl)) | (simp only [ByteArray.size_append, Int.natCast_add, Int.toNat_natCast] at h_ ⊢; first | exact h_ | simpa using h_ | simp [h_] | omega) | (simp only [ByteArray.size_append] at h_; simp at h_ ⊢; omega) | (simp only [ByteArray.size_append, Int.natCast_add, Int.toNat_natCast] at h_; simpa using h_)))
      try have c23b2 : (9223372036854775807 < (((⟨#[8, 0, 0, 0]⟩ : ByteArray) ++ t500) ++ (⟨#[0]⟩ : ByteArray)).size + a3.size) = False := eq_false (Nat.not_lt.2 c23)
      replace H := Option.bind_eq_some_iff.mp H
      obtain ⟨⟨t501, t502⟩, A240, H⟩ := H
      replace H : ((intrusionref17_made.f b0 b1 b2 d0 d1 d2 17 t501).bind fun bt503 => (some (bt503.1, bt503.2.1, bt503.2.2.1, bt503.2.2.2.1, bt503.2.2.2.2.1, bt503.2.2.2.2.2.1, bt503.2.2.2.2.2.2.1, bt503.2.2.2.2.2.2.2.1, bt503.2.2.2.2.2.2.2.2.1, bt503.2.2.2.2.2.2.2.2.2))) = some (r1, r2, r3, r4, r5, r6, r7, r8, r9, r10) := H
      have A24 := As A240
      clear A240
      replace H := Option.bind_eq_some_iff.mp H
      obtain ⟨⟨t503, t504, t505, t506, t507, t508, t509, t510, t511, t512⟩, A250, H⟩ := H
      replace H : (some (t503, t504, t505, t506, t507, t508, t509, t510, t511, t512)) = some (r1, r2, r3, r4, r5, r6, r7, r8, r9, r10) := H
      have A25 := As A250
      clear A250
      simp only [Option.some.injEq, Prod.mk.injEq] at H
      obtain ⟨rfl, rfl, rfl, rfl, rfl, rfl, rfl, rfl, rfl, rfl⟩ := H
      try go_wp2
      replace BK496 := As (blk_drew BK496.out)
      replace BK497 := As (blk_drew BK497.out)
      replace BK498 := As (blk_drew BK498.out)
      replace HB := As (below_drew1 HB.out)
      refine start_ (n := 15) (S := fun w' => w'.cell? ⟨gb496, 0, none⟩ = some (.bool b0) ∧ w'.cell? ⟨gb496, 1, none⟩ = some (.int .u64 b1) ∧ w'.cell? ⟨gb496, 2, none⟩ = some (.int .u64 b2) ∧ w'.cell? ⟨gb497, 0, none⟩ = some (.bool d0) ∧ w'.cell? ⟨gb497, 1, none⟩ = some (.int .u64 d1) ∧ w'.cell? ⟨gb497, 2, none⟩ = some (.int .u64 d2)) (ds := []) #[O, O, O, O, O, O, O, O, O, O, O, O, O, O, O] (by kernel_rfl) rfl rfl ⟨kC BK496.out 0, kC BK496.out 1, kC BK496.out 2, kC BK497.out 0, kC BK497.out 1, kC BK497.out 2⟩ (fun hHeld => ?_); refine with_tabW intrusionref17_WrapVxlan.tab7 intrusionref17_WrapVxlan.bits7 (fun HT_ HW_ => ?_)
      generalize wc.drew = w26 at BK496 BK497 BK498 HB hHeld ⊢
      refine kP 2 31 #[O, O, I, O, O, O, O, O, O, O, O, O, O, O, O] ?_ (any_of HT_.out (by kernel_rfl))
      refine kP 6 35 #[O, O, I, O, O, O, I, O, O, O, O, O, O, O, O] ?_ (any_of HT_.out (by kernel_rfl))
      refine take_ (i := 0) (N := some 29) (v := ?_) (a' := ?_) #[I, O, I, O, O, O, I, O, O, O, O, O, O, O, O] rfl rfl (take_ofW HT_.out HW_.out (by kernel_rfl)) (fun _ _ _ h => h) (Or.inl ⟨by rfl, ?_⟩) hHeld ?_ ?_
      rotate_left
      ·rintro w' ⟨s0, s1, s2, s3, s4, s5⟩
       go_simp
       with_reducible rfl
      rotate_left
      ·simp only [Act.put, sA, sZ, sS, i64_w, i32_w]
       rfl
      refine take_ (i := 1) (N := some 30) (v := ?_) (a' := ?_) #[I, I, I, O, O, O, I, O, O, O, O, O, O, O, O] rfl rfl (take_ofW HT_.out HW_.out (by kernel_rfl)) (fun _ _ _ h => h) (Or.inl ⟨by rfl, ?_⟩) hHeld ?_ ?_
      rotate_left
      ·rintro w' ⟨s0, s1, s2, s3, s4, s5⟩
       go_simp
       with_reducible rfl
      rotate_left
      ·simp only [Act.put, sA, sZ, sS, i64_w, i32_w]
       rfl
      refine one_ (i := 3) (N := some 32) #[I, I, I, I, O, O, I, O, O, O, O, O, O, O, O] rfl rfl (one_of HT_.out (by kernel_rfl)) (by decide) (fun K hK => ?_)
      refine goes_ Tryd.func31 (by kernel_rfl) rfl #[.int .i64 a2, .int .i64 3] (by rfl) rfl rfl kA ?_
      with_reducible refine (intrusionref01_Put.calls kj6 a2 3 t500 _ A20.out).mono ?_
      rintro e w27 ⟨rfl, hb⟩
      refine ⟨_, rfl, ?_⟩
      replace BK496 := As (blk_below (kb BK496.out) hb)
      replace BK497 := As (blk_below (kb BK497.out) hb)
      replace BK498 := As (blk_below (kb BK498.out) hb)
      replace HB := As (below_step (kB3 HB.out GE496.out GE497.out GE498.out) hb)
      (try clear hb)
      (try clear hb2)
      (try clear hk)
      (try clear hi)
      refine hK.out _ _ ⟨kC BK496.out 0, kC BK496.out 1, kC BK496.out 2, kC BK497.out 0, kC BK497.out 1, kC BK497.out 2⟩ (fun hHeld => ?_)
      clear hK K
      refine norm_ (a' := ?_) ?_ ?_
      rotate_left
      ·show Act.put _ (some 32) _ = _
       simp only [Act.put, sA, sZ, sS, i64_w, i32_w]
       rfl
      refine kP 4 33 #[I, I, I, I, I, O, I, O, O, O, O, O, O, O, O] ?_ (any_of HT_.out (by kernel_rfl))
      refine kP 5 34 #[I, I, I, I, I, I, I, O, O, O, O, O, O, O, O] ?_ (any_of HT_.out (by kernel_rfl))
      refine kP 7 36 #[I, I, I, I, I, I, I, I, O, O, O, O, O, O, O] ?_ (any_of HT_.out (by kernel_rfl))
      refine kP 8 37 #[I, I, I, I, I, I, I, I, I, O, O, O, O, O, O] ?_ (any_of HT_.out (by kernel_rfl))
      refine one_ (i := 9) (N := some 38) #[I, I, I, I, I, I, I, I, I, I, O, O, O, O, O] rfl rfl (one_of HT_.out (by kernel_rfl)) (by decide) (fun K hK => ?_)
      refine goes_ Tryd.func52 (by kernel_rfl) rfl #[.agg #[.bool b0, .int .u64 b1, .int .u64 b2], .agg #[.bool d0, .int .u64 d1, .int .u64 d2], .agg #[.int .i64 49152, .int .i64 4789, .string ((((⟨#[8, 0, 0, 0]⟩ : ByteArray) ++ t500) ++ (⟨#[0]⟩ : ByteArray)) ++ a3)]] (by rfl) rfl rfl kA ?_
      with_reducible refine (intrusionref13_Encode.calls kj6 b0 b1 b2 d0 d1 d2 49152 4789 ((((⟨#[8, 0, 0, 0]⟩ : ByteArray) ++ t500) ++ (⟨#[0]⟩ : ByteArray)) ++ a3) t501 t502 _ A24.out).mono ?_
      rintro e w28 ⟨rfl, hb⟩
      refine ⟨_, rfl, ?_⟩
      replace BK496 := As (blk_below (kb BK496.out) hb)
      replace BK497 := As (blk_below (kb BK497.out) hb)
      replace BK498 := As (blk_below (kb BK498.out) hb)
      replace HB := As (below_step (kB3 HB.out GE496.out GE497.out GE498.out) hb)
      (try clear hb)
      (try clear hb2)
      (try clear hk)
      (try clear hi)
      refine hK.out _ _ ⟨kC BK496.out 0, kC BK496.out 1, kC BK496.out 2, kC BK497.out 0, kC BK497.out 1, kC BK497.out 2⟩ (fun hHeld => ?_)
      clear hK K
      refine norm_ (a' := ?_) ?_ ?_
      rotate_left
      ·show Act.put _ (some 38) _ = _
       simp only [Act.put, sA, sZ, sS, i64_w, i32_w]
       rfl
      refine kP 10 28 #[I, I, I, I, I, I, I, I, I, I, I, O, O, O, O] ?_ (any_of HT_.out (by kernel_rfl))
      refine kP 11 39 #[I, I, I, I, I, I, I, I, I, I, I, I, O, O, O] ?_ (any_of HT_.out (by kernel_rfl))
      refine kP 12 40 #[I, I, I, I, I, I, I, I, I, I, I, I, I, O, O] ?_ (any_of HT_.out (by kernel_rfl))
      refine kP 13 10 #[I, I, I, I, I, I, I, I, I, I, I, I, I, I, O] ?_ (any_of HT_.out (by kernel_rfl))
      refine kP 14 11 #[I, I, I, I, I, I, I, I, I, I, I, I, I, I, I] ?_ (any_of HT_.out (by kernel_rfl))
      refine done_ (done_of HT_.out (by kernel_rfl)) ?_
      have hnb29 := NB496_497.out
      have hnc29 := NB497_496.out
      have hnb30 := NB496_498.out
      have hnc30 := NB498_496.out
      have hcz31_0 := cells_3 BK496.out
      have hfz31_0 := fun j_ => blk_frozen BK496.out j_
      have hnb32 := NB497_498.out
      have hnc32 := NB498_497.out
      have hcz33_0 := cells_3 BK497.out
      have hfz33_0 := fun j_ => blk_frozen BK497.out j_
      try go_wp2_with (first | ((with_reducible refine gate_callee (f := 32) rfl ?_); refine goesL_ (some 44) rfl rfl Tryd.func32 (by kernel_rfl) rfl #[.agg #[.bool b0, .int .u64 b1, .int .u64 b2], .agg #[.bool d0, .int .u64 d1, .int .u64 d2], .int .i64 17, .string t501] rfl kA ?_; (with_reducible refine (intrusionref17_made.calls b0 b1 b2 d0 d1 d2 17 t501 t503 t504 t505 t506 t507 t508 t509 t510 t511 t512 _ A25.out).mono ?_); rintro e w34 ⟨rfl, hb⟩; refine ⟨_, rfl, ?_⟩; replace BK496 := As (blk_below (kb BK496.out) hb); replace BK497 := As (blk_below (kb BK497.out) hb); replace BK498 := As (blk_below (kb BK498.out) hb); replace HB := As (below_step (kB3 HB.out GE496.out GE497.out GE498.out) hb); (try clear hb)) | ((with_reducible refine gate_store (t := 30) (p := 8) rfl ?_); refine store_rowev_9 gb498 (.bool t503) (.int .u64 t504) (.int .u64 t505) (.bool t506) (.int .u64 t507) (.int .u64 t508) (.int .i64 t509) (.int .i64 t510) (.string t511) rfl (t := 30) (p := 8) (v := _) rfl rfl rfl rfl (t' := 30) (kb BK498.out) (by rfl) (by kernel_rfl) (by rfl) ?_))
      refine bodyPost_ret (results_ct rfl _ _ gb498 30 #[.bool t503, .int .u64 t504, .int .u64 t505, .bool t506, .int .u64 t507, .int .u64 t508, .int .i64 t509, .int .i64 t510, .string t511] (0, 0) _ rfl (by refine kb ?_; exact blk_all_9 (kb BK498.out) (by rfl)) Tryd.underlying30 rfl (by kernel_rfl)) rfl ?_
      exact ⟨kE, by exact kB3 HB.out GE496.out GE497.out GE498.out⟩
     rw [if_neg c23] at H
     exact absurd H (by simp)
    rw [if_neg c22] at H
    exact absurd H (by simp)
   rw [if_neg c21] at H
   exact absurd H (by simp)
 replace c6 := Bool.eq_false_iff.mpr c6
 subst c6
 have H1 : (some (false, 0, 0, false, 0, 0, 0, 0, (⟨#[]⟩ : ByteArray), 13)) = some (r1, r2, r3, r4, r5, r6, r7, r8, r9, r10) := by rw [if_neg (show ¬ (false = true) by decide)] at H; exact H
 clear H
 have H := H1
 clear H1
 simp only [Option.some.injEq, Prod.mk.injEq] at H
 obtain ⟨rfl, rfl, rfl, rfl, rfl, rfl, rfl, rfl, rfl, rfl⟩ := H
 go_enter Tryd.func25, Tryd.ntmps25
 go_wp2_with (first | ((with_reducible refine gate_dst (N := 4) rfl ?_); refine box_event rfl (N := 4) rfl (cs := #[.bool b0, .int .u64 b1, .int .u64 b2]) (t := 24) kG ?_; intro gb496 hg w35 hbox hb; have BK496 := As (hbox); have GW496 := As ((by rw [hg]; exact (below_size (kB HB.out)) : w.heap.size ≤ gb496)); have GE496 := As ((by rw [hg]; exact (below_size (kB HB.out)) : w.heap.size ≤ gb496)); replace HB := As (below_step (kB HB.out) hb); clear hb hbox hg) | ((with_reducible refine gate_dst (N := 5) rfl ?_); refine box_event rfl (N := 5) rfl (cs := #[.bool d0, .int .u64 d1, .int .u64 d2]) (t := 24) kG ?_; intro gb497 hg w36 hbox hb; have BK497 := As (hbox); have GW497 := As ((by rw [hg]; exact (below_size (kB1 HB.out GE496.out)) : w.heap.size ≤ gb497)); have GE497 := As ((by rw [hg]; exact (below_size (kB1 HB.out GE496.out)) : w.heap.size ≤ gb497)); replace HB := As (below_step (kB1 HB.out GE496.out) hb); have NB496_497 := As ((by rw [hg]; exact Nat.ne_of_lt (blk_lt (kb BK496.out)) : gb496 ≠ gb497)); have NB497_496 := As ((by rw [hg]; exact Nat.ne_of_gt (blk_lt (kb BK496.out)) : gb497 ≠ gb496)); replace BK496 := As (blk_below (kb BK496.out) hb); clear hb hbox hg) | ((with_reducible refine gate_dst (N := 8) rfl ?_); refine box_event rfl (N := 8) rfl (cs := #[.bool false, .int .u64 0, .int .u64 0, .bool false, .int .u64 0, .int .u64 0, .int .i64 0, .int .i64 0, .string (⟨#[]⟩ : ByteArray)]) (t := 30) kG ?_; intro gb498 hg w37 hbox hb; have BK498 := As (hbox); have GW498 := As ((by rw [hg]; exact (below_size (kB2 HB.out GE496.out GE497.out)) : w.heap.size ≤ gb498)); have GE498 := As ((by rw [hg]; exact (below_size (kB2 HB.out GE496.out GE497.out)) : w.heap.size ≤ gb498)); replace HB := As (below_step (kB2 HB.out GE496.out GE497.out) hb); have NB496_498 := As ((by rw [hg]; exact Nat.ne_of_lt (blk_lt (kb BK496.out)) : gb496 ≠ gb498)); have NB498_496 := As ((by rw [hg]; exact Nat.ne_of_gt (blk_lt (kb BK496.out)) : gb498 ≠ gb496)); replace BK496 := As (blk_below (kb BK496.out) hb); have NB497_498 := As ((by rw [hg]; exact Nat.ne_of_lt (blk_lt (kb BK497.out)) : gb497 ≠ gb498)); have NB498_497 := As ((by rw [hg]; exact Nat.ne_of_gt (blk_lt (kb BK497.out)) : gb498 ≠ gb497)); replace BK497 := As (blk_below (kb BK497.out) hb); clear hb hbox hg; have hnb38 := NB496_497.out; have hnc38 := NB497_496.out; have hnb39 := NB496_498.out; have hnc39 := NB498_496.out; have hcz40_0 := cells_3 BK496.out; have hfz40_0 := fun j_ => blk_frozen BK496.out j_; have hnb41 := NB497_498.out; have hnc41 := NB498_497.out; have hcz42_0 := cells_3 BK497.out; have hfz42_0 := fun j_ => blk_frozen BK497.out j_) | ((with_reducible refine gate_callee (f := 30) rfl ?_); refine goesL_ (some 14) rfl rfl Tryd.func30 (by kernel_rfl) rfl #[.agg #[.bool b0, .int .u64 b1, .int .u64 b2], .agg #[.bool d0, .int .u64 d1, .int .u64 d2]] rfl kA ?_; (with_reducible refine (intrusionref17_family.calls b0 b1 b2 d0 d1 d2 false _ A5.out).mono ?_); rintro e w43 ⟨rfl, hb⟩; refine ⟨_, rfl, ?_⟩; replace BK496 := As (blk_below (kb BK496.out) hb); replace BK497 := As (blk_below (kb BK497.out) hb); replace BK498 := As (blk_below (kb BK498.out) hb); replace HB := As (below_step (kB3 HB.out GE496.out GE497.out GE498.out) hb); (try clear hb)) | ((with_reducible refine gate_store (t := 30) (p := 8) rfl ?_); refine store_rowev_9 gb498 (.bool false) (.int .u64 0) (.int .u64 0) (.bool false) (.int .u64 0) (.int .u64 0) (.int .i64 0) (.int .i64 0) (.string (⟨#[]⟩ : ByteArray)) rfl (t := 30) (p := 8) (v := _) rfl rfl rfl rfl (t' := 30) (kb BK498.out) (by rfl) (by kernel_rfl) (by rfl) ?_))
 refine bodyPost_ret (results_ct rfl _ _ gb498 30 #[.bool false, .int .u64 0, .int .u64 0, .bool false, .int .u64 0, .int .u64 0, .int .i64 0, .int .i64 0, .string (⟨#[]⟩ : ByteArray)] (0, 0) _ rfl (by refine kb ?_; exact blk_all_9 (kb BK498.out) (by rfl)) Tryd.underlying30 rfl (by kernel_rfl)) rfl ?_
 exact ⟨kE, by exact kB3 HB.out GE496.out GE497.out GE498.out⟩

/-! ### intrusionlaw17_TunnelWraps: function 8 -/
def intrusionlaw17_TunnelWraps.f (k : Nat) (b0 : Bool) (b1 : Int) (b2 : Int) (b3 : Bool) (b4 : Int) (b5 : Int) (a1 : Int) (a2 : ByteArray) : Option (Bool) := (intrusionlaw17_long.f a2).bind fun t514 => (if t514 = true then ((intrusionlaw17_awake.f k).bind fun t515 => (some t515)) else ((tunnel_WrapIp.f k b0 b1 b2 b3 b4 b5 a2).bind fun bt516 => ((intrusionref17_WrapIp.f k b0 b1 b2 b3 b4 b5 a2).bind fun bt527 => ((tunnel_WrapVxlan.f k b0 b1 b2 b3 b4 b5 a1 a2).bind fun bt538 => ((intrusionref17_WrapVxlan.f k b0 b1 b2 b3 b4 b5 a1 a2).bind fun bt549 => (if ((bt516.1 == bt527.1 && (bt516.2.1 == bt527.2.1 && (bt516.2.2.1 == bt527.2.2.1))) && ((bt516.2.2.2.1 == bt527.2.2.2.1 && (bt516.2.2.2.2.1 == bt527.2.2.2.2.1 && (bt516.2.2.2.2.2.1 == bt527.2.2.2.2.2.1))) && (bt516.2.2.2.2.2.2.1 == bt527.2.2.2.2.2.2.1 && (bt516.2.2.2.2.2.2.2.1 == bt527.2.2.2.2.2.2.2.1 && (bt516.2.2.2.2.2.2.2.2.1.toList == bt527.2.2.2.2.2.2.2.2.1.toList))))) = true then (if bt516.2.2.2.2.2.2.2.2.2 = bt527.2.2.2.2.2.2.2.2.2 then (if ((bt538.1 == bt549.1 && (bt538.2.1 == bt549.2.1 && (bt538.2.2.1 == bt549.2.2.1))) && ((bt538.2.2.2.1 == bt549.2.2.2.1 && (bt538.2.2.2.2.1 == bt549.2.2.2.2.1 && (bt538.2.2.2.2.2.1 == bt549.2.2.2.2.2.1))) && (bt538.2.2.2.2.2.2.1 == bt549.2.2.2.2.2.2.1 && (bt538.2.2.2.2.2.2.2.1 == bt549.2.2.2.2.2.2.2.1 && (bt538.2.2.2.2.2.2.2.2.1.toList == bt549.2.2.2.2.2.2.2.2.1.toList))))) = true then (if bt538.2.2.2.2.2.2.2.2.2 = bt549.2.2.2.2.2.2.2.2.2 then ((intrusionlaw17_awake.f k).bind fun t560 => (some t560)) else (none)) else (none)) else (none)) else (none)))))))
theorem intrusionlaw17_TunnelWraps.mono : ∀ a0 a1 a2 a3 a4 a5 a6 a7 k, LeO (intrusionlaw17_TunnelWraps.f k a0 a1 a2 a3 a4 a5 a6 a7) (intrusionlaw17_TunnelWraps.f (k + 1) a0 a1 a2 a3 a4 a5 a6 a7) := by
 intro a0 a1 a2 a3 a4 a5 a6 a7 k
 unfold intrusionlaw17_TunnelWraps.f
 repeat' first | with_reducible first | apply intrusionlaw17_awake.mono | apply intrusionref17_WrapIp.mono | apply intrusionref17_WrapVxlan.mono | apply tunnel_WrapIp.mono | apply tunnel_WrapVxlan.mono | apply LeO.refl | apply LeO.none | refine LeO.ite ?_ ?_ | refine LeO.bind ?_ (fun _ => ?_)
set_option maxHeartbeats 8000000 in
set_option maxRecDepth 100000 in
theorem intrusionlaw17_TunnelWraps.calls (k : Nat) (b0 : Bool) (b1 : Int) (b2 : Int) (b3 : Bool) (b4 : Int) (b5 : Int) (a1 : Int) (a2 : ByteArray) (r : Bool) (w : World) (hLd : Laid w) (h : intrusionlaw17_TunnelWraps.f k b0 b1 b2 b3 b4 b5 a1 a2 = some r) :
  Calls Tryd.prog 8 #[.agg #[.bool b0, .int .u64 b1, .int .u64 b2, .bool b3, .int .u64 b4, .int .u64 b5], .int .i64 a1, .string a2] w fun e w' => e = .returned (.bool r) ∧ Below w.heap.size w w' := by
 have hu26 := Tryd.underlying26
 have hu24 := Tryd.underlying24
 have hu30 := Tryd.underlying30
 have HLD := As hLd
 clear hLd
 have HB := As (Below.refl w.heap.size w)
 have H : ((intrusionlaw17_long.f a2).bind fun t514 => (if t514 = true then ((intrusionlaw17_awake.f k).bind fun t515 => (some t515)) else ((tunnel_WrapIp.f k b0 b1 b2 b3 b4 b5 a2).bind fun bt516 => ((intrusionref17_WrapIp.f k b0 b1 b2 b3 b4 b5 a2).bind fun bt527 => ((tunnel_WrapVxlan.f k b0 b1 b2 b3 b4 b5 a1 a2).bind fun bt538 => ((intrusionref17_WrapVxlan.f k b0 b1 b2 b3 b4 b5 a1 a2).bind fun bt549 => (if ((bt516.1 == bt527.1 && (bt516.2.1 == bt527.2.1 && (bt516.2.2.1 == bt527.2.2.1))) && ((bt516.2.2.2.1 == bt527.2.2.2.1 && (bt516.2.2.2.2.1 == bt527.2.2.2.2.1 && (bt516.2.2.2.2.2.1 == bt527.2.2.2.2.2.1))) && (bt516.2.2.2.2.2.2.1 == bt527.2.2.2.2.2.2.1 && (bt516.2.2.2.2.2.2.2.1 == bt527.2.2.2.2.2.2.2.1 && (bt516.2.2.2.2.2.2.2.2.1.toList == bt527.2.2.2.2.2.2.2.2.1.toList))))) = true then (if bt516.2.2.2.2.2.2.2.2.2 = bt527.2.2.2.2.2.2.2.2.2 then (if ((bt538.1 == bt549.1 && (bt538.2.1 == bt549.2.1 && (bt538.2.2.1 == bt549.2.2.1))) && ((bt538.2.2.2.1 == bt549.2.2.2.1 && (bt538.2.2.2.2.1 == bt549.2.2.2.2.1 && (bt538.2.2.2.2.2.1 == bt549.2.2.2.2.2.1))) && (bt538.2.2.2.2.2.2.1 == bt549.2.2.2.2.2.2.1 && (bt538.2.2.2.2.2.2.2.1 == bt549.2.2.2.2.2.2.2.1 && (bt538.2.2.2.2.2.2.2.2.1.toList == bt549.2.2.2.2.2.2.2.2.1.toList))))) = true then (if bt538.2.2.2.2.2.2.2.2.2 = bt549.2.2.2.2.2.2.2.2.2 then ((intrusionlaw17_awake.f k).bind fun t560 => (some t560)) else (none)) else (none)) else (none)) else (none)))))))) = some r := h
 clear h
 replace H := Option.bind_eq_some_iff.mp H
 obtain ⟨t514, A40, H⟩ := H
 replace H : (if t514 = true then ((intrusionlaw17_awake.f k).bind fun t515 => (some t515)) else ((tunnel_WrapIp.f k b0 b1 b2 b3 b4 b5 a2).bind fun bt516 => ((intrusionref17_WrapIp.f k b0 b1 b2 b3 b4 b5 a2).bind fun bt527 => ((tunnel_WrapVxlan.f k b0 b1 b2 b3 b4 b5 a1 a2).bind fun bt538 => ((intrusionref17_WrapVxlan.f k b0 b1 b2 b3 b4 b5 a1 a2).bind fun bt549 => (if ((bt516.1 == bt527.1 && (bt516.2.1 == bt527.2.1 && (bt516.2.2.1 == bt527.2.2.1))) && ((bt516.2.2.2.1 == bt527.2.2.2.1 && (bt516.2.2.2.2.1 == bt527.2.2.2.2.1 && (bt516.2.2.2.2.2.1 == bt527.2.2.2.2.2.1))) && (bt516.2.2.2.2.2.2.1 == bt527.2.2.2.2.2.2.1 && (bt516.2.2.2.2.2.2.2.1 == bt527.2.2.2.2.2.2.2.1 && (bt516.2.2.2.2.2.2.2.2.1.toList == bt527.2.2.2.2.2.2.2.2.1.toList))))) = true then (if bt516.2.2.2.2.2.2.2.2.2 = bt527.2.2.2.2.2.2.2.2.2 then (if ((bt538.1 == bt549.1 && (bt538.2.1 == bt549.2.1 && (bt538.2.2.1 == bt549.2.2.1))) && ((bt538.2.2.2.1 == bt549.2.2.2.1 && (bt538.2.2.2.2.1 == bt549.2.2.2.2.1 && (bt538.2.2.2.2.2.1 == bt549.2.2.2.2.2.1))) && (bt538.2.2.2.2.2.2.1 == bt549.2.2.2.2.2.2.1 && (bt538.2.2.2.2.2.2.2.1 == bt549.2.2.2.2.2.2.2.1 && (bt538.2.2.2.2.2.2.2.2.1.toList == bt549.2.2.2.2.2.2.2.2.1.toList))))) = true then (if bt538.2.2.2.2.2.2.2.2.2 = bt549.2.2.2.2.2.2.2.2.2 then ((intrusionlaw17_awake.f k).bind fun t560 => (some t560)) else (none)) else (none)) else (none)) else (none))))))) = some r := H
 have A4 := As A40
 clear A40
 by_cases c5 : t514 = true
 ·subst c5
  have H1 : ((intrusionlaw17_awake.f k).bind fun t515 => (some t515)) = some r := by rw [if_pos rfl] at H; exact H
  clear H
  have H := H1
  clear H1
  replace H := Option.bind_eq_some_iff.mp H
  obtain ⟨t515, A60, H⟩ := H
  replace H : (some t515) = some r := H
  have A6 := As A60
  clear A60
  obtain rfl := Option.some.inj H
  go_enter Tryd.func8, Tryd.ntmps8
  go_wp2_with (first | ((with_reducible refine gate_dst (N := 3) rfl ?_); refine box_event rfl (N := 3) rfl (cs := #[.bool b0, .int .u64 b1, .int .u64 b2, .bool b3, .int .u64 b4, .int .u64 b5]) (t := 26) kG ?_; intro gb513 hg w7 hbox hb; have BK513 := As (hbox); have GW513 := As ((by rw [hg]; exact (below_size (kB HB.out)) : w.heap.size ≤ gb513)); have GE513 := As ((by rw [hg]; exact (below_size (kB HB.out)) : w.heap.size ≤ gb513)); replace HB := As (below_step (kB HB.out) hb); clear hb hbox hg) | ((with_reducible refine gate_callee (f := 10) rfl ?_); refine goesL_ (some 16) rfl rfl Tryd.func10 (by kernel_rfl) rfl #[.string a2] rfl kA ?_; (with_reducible refine (intrusionlaw17_long.calls a2 true _ A4.out).mono ?_); rintro e w' ⟨rfl, ⟨nd, rfl⟩⟩; refine ⟨_, rfl, ?_⟩) | ((with_reducible refine gate_callee (f := 11) rfl ?_); refine goesL_ (some 17) rfl rfl Tryd.func11 (by kernel_rfl) rfl #[] rfl kA ?_; (with_reducible refine (intrusionlaw17_awake.calls k  t515 _ ?side1 A6.out).mono ?_); (case side1 => exact laid_below HLD.out (kB1 HB.out GE513.out)); rintro e w8 ⟨rfl, hb⟩; refine ⟨_, rfl, ?_⟩; replace BK513 := As (blk_below (kb BK513.out) hb); replace HB := As (below_step (kB1 HB.out GE513.out) hb); (try clear hb)))
  go_ret
  exact ⟨kE, by exact kB1 HB.out GE513.out⟩
 replace c5 := Bool.eq_false_iff.mpr c5
 subst c5
 have H1 : ((tunnel_WrapIp.f k b0 b1 b2 b3 b4 b5 a2).bind fun bt516 => ((intrusionref17_WrapIp.f k b0 b1 b2 b3 b4 b5 a2).bind fun bt527 => ((tunnel_WrapVxlan.f k b0 b1 b2 b3 b4 b5 a1 a2).bind fun bt538 => ((intrusionref17_WrapVxlan.f k b0 b1 b2 b3 b4 b5 a1 a2).bind fun bt549 => (if ((bt516.1 == bt527.1 && (bt516.2.1 == bt527.2.1 && (bt516.2.2.1 == bt527.2.2.1))) && ((bt516.2.2.2.1 == bt527.2.2.2.1 && (bt516.2.2.2.2.1 == bt527.2.2.2.2.1 && (bt516.2.2.2.2.2.1 == bt527.2.2.2.2.2.1))) && (bt516.2.2.2.2.2.2.1 == bt527.2.2.2.2.2.2.1 && (bt516.2.2.2.2.2.2.2.1 == bt527.2.2.2.2.2.2.2.1 && (bt516.2.2.2.2.2.2.2.2.1.toList == bt527.2.2.2.2.2.2.2.2.1.toList))))) = true then (if bt516.2.2.2.2.2.2.2.2.2 = bt527.2.2.2.2.2.2.2.2.2 then (if ((bt538.1 == bt549.1 && (bt538.2.1 == bt549.2.1 && (bt538.2.2.1 == bt549.2.2.1))) && ((bt538.2.2.2.1 == bt549.2.2.2.1 && (bt538.2.2.2.2.1 == bt549.2.2.2.2.1 && (bt538.2.2.2.2.2.1 == bt549.2.2.2.2.2.1))) && (bt538.2.2.2.2.2.2.1 == bt549.2.2.2.2.2.2.1 && (bt538.2.2.2.2.2.2.2.1 == bt549.2.2.2.2.2.2.2.1 && (bt538.2.2.2.2.2.2.2.2.1.toList == bt549.2.2.2.2.2.2.2.2.1.toList))))) = true then (if bt538.2.2.2.2.2.2.2.2.2 = bt549.2.2.2.2.2.2.2.2.2 then ((intrusionlaw17_awake.f k).bind fun t560 => (some t560)) else (none)) else (none)) else (none)) else (none)))))) = some r := by rw [if_neg (show ¬ (false = true) by decide)] at H; exact H
 clear H
 have H := H1
 clear H1
 replace H := Option.bind_eq_some_iff.mp H
 obtain ⟨⟨t516, t517, t518, t519, t520, t521, t522, t523, t524, t525⟩, A90, H⟩ := H
 replace H : ((intrusionref17_WrapIp.f k b0 b1 b2 b3 b4 b5 a2).bind fun bt527 => ((tunnel_WrapVxlan.f k b0 b1 b2 b3 b4 b5 a1 a2).bind fun bt538 => ((intrusionref17_WrapVxlan.f k b0 b1 b2 b3 b4 b5 a1 a2).bind fun bt549 => (if ((t516 == bt527.1 && (t517 == bt527.2.1 && (t518 == bt527.2.2.1))) && ((t519 == bt527.2.2.2.1 && (t520 == bt527.2.2.2.2.1 && (t521 == bt527.2.2.2.2.2.1))) && (t522 == bt527.2.2.2.2.2.2.1 && (t523 == bt527.2.2.2.2.2.2.2.1 && (t524.toList == bt527.2.2.2.2.2.2.2.2.1.toList))))) = true then (if t525 = bt527.2.2.2.2.2.2.2.2.2 then (if ((bt538.1 == bt549.1 && (bt538.2.1 == bt549.2.1 && (bt538.2.2.1 == bt549.2.2.1))) && ((bt538.2.2.2.1 == bt549.2.2.2.1 && (bt538.2.2.2.2.1 == bt549.2.2.2.2.1 && (bt538.2.2.2.2.2.1 == bt549.2.2.2.2.2.1))) && (bt538.2.2.2.2.2.2.1 == bt549.2.2.2.2.2.2.1 && (bt538.2.2.2.2.2.2.2.1 == bt549.2.2.2.2.2.2.2.1 && (bt538.2.2.2.2.2.2.2.2.1.toList == bt549.2.2.2.2.2.2.2.2.1.toList))))) = true then (if bt538.2.2.2.2.2.2.2.2.2 = bt549.2.2.2.2.2.2.2.2.2 then ((intrusionlaw17_awake.f k).bind fun t560 => (some t560)) else (none)) else (none)) else (none)) else (none))))) = some r := H
 have A9 := As A90
 clear A90
 replace H := Option.bind_eq_some_iff.mp H
 obtain ⟨⟨t527, t528, t529, t530, t531, t532, t533, t534, t535, t536⟩, A100, H⟩ := H
 replace H : ((tunnel_WrapVxlan.f k b0 b1 b2 b3 b4 b5 a1 a2).bind fun bt538 => ((intrusionref17_WrapVxlan.f k b0 b1 b2 b3 b4 b5 a1 a2).bind fun bt549 => (if ((t516 == t527 && (t517 == t528 && (t518 == t529))) && ((t519 == t530 && (t520 == t531 && (t521 == t532))) && (t522 == t533 && (t523 == t534 && (t524.toList == t535.toList))))) = true then (if t525 = t536 then (if ((bt538.1 == bt549.1 && (bt538.2.1 == bt549.2.1 && (bt538.2.2.1 == bt549.2.2.1))) && ((bt538.2.2.2.1 == bt549.2.2.2.1 && (bt538.2.2.2.2.1 == bt549.2.2.2.2.1 && (bt538.2.2.2.2.2.1 == bt549.2.2.2.2.2.1))) && (bt538.2.2.2.2.2.2.1 == bt549.2.2.2.2.2.2.1 && (bt538.2.2.2.2.2.2.2.1 == bt549.2.2.2.2.2.2.2.1 && (bt538.2.2.2.2.2.2.2.2.1.toList == bt549.2.2.2.2.2.2.2.2.1.toList))))) = true then (if bt538.2.2.2.2.2.2.2.2.2 = bt549.2.2.2.2.2.2.2.2.2 then ((intrusionlaw17_awake.f k).bind fun t560 => (some t560)) else (none)) else (none)) else (none)) else (none)))) = some r := H
 have A10 := As A100
 clear A100
 replace H := Option.bind_eq_some_iff.mp H
 obtain ⟨⟨t538, t539, t540, t541, t542, t543, t544, t545, t546, t547⟩, A110, H⟩ := H
 replace H : ((intrusionref17_WrapVxlan.f k b0 b1 b2 b3 b4 b5 a1 a2).bind fun bt549 => (if ((t516 == t527 && (t517 == t528 && (t518 == t529))) && ((t519 == t530 && (t520 == t531 && (t521 == t532))) && (t522 == t533 && (t523 == t534 && (t524.toList == t535.toList))))) = true then (if t525 = t536 then (if ((t538 == bt549.1 && (t539 == bt549.2.1 && (t540 == bt549.2.2.1))) && ((t541 == bt549.2.2.2.1 && (t542 == bt549.2.2.2.2.1 && (t543 == bt549.2.2.2.2.2.1))) && (t544 == bt549.2.2.2.2.2.2.1 && (t545 == bt549.2.2.2.2.2.2.2.1 && (t546.toList == bt549.2.2.2.2.2.2.2.2.1.toList))))) = true then (if t547 = bt549.2.2.2.2.2.2.2.2.2 then ((intrusionlaw17_awake.f k).bind fun t560 => (some t560)) else (none)) else (none)) else (none)) else (none))) = some r := H
 have A11 := As A110
 clear A110
 replace H := Option.bind_eq_some_iff.mp H
 obtain ⟨⟨t549, t550, t551, t552, t553, t554, t555, t556, t557, t558⟩, A120, H⟩ := H
 replace H : (if ((t516 == t527 && (t517 == t528 && (t518 == t529))) && ((t519 == t530 && (t520 == t531 && (t521 == t532))) && (t522 == t533 && (t523 == t534 && (t524.toList == t535.toList))))) = true then (if t525 = t536 then (if ((t538 == t549 && (t539 == t550 && (t540 == t551))) && ((t541 == t552 && (t542 == t553 && (t543 == t554))) && (t544 == t555 && (t545 == t556 && (t546.toList == t557.toList))))) = true then (if t547 = t558 then ((intrusionlaw17_awake.f k).bind fun t560 => (some t560)) else (none)) else (none)) else (none)) else (none)) = some r := H
 have A12 := As A120
 clear A120
 by_cases c13 : ((t516 == t527 && (t517 == t528 && (t518 == t529))) && ((t519 == t530 && (t520 == t531 && (t521 == t532))) && (t522 == t533 && (t523 == t534 && (t524.toList == t535.toList))))) = true
 ·rw [if_pos c13] at H
  have c13b0 : ((t516 == t527 && (t517 == t528 && (t518 == t529))) && ((t519 == t530 && (t520 == t531 && (t521 == t532))) && (t522 == t533 && (t523 == t534 && (t524.toList == t535.toList))))) = true := c13
  clear c13
  by_cases c14 : t525 = t536
  ·rw [if_pos c14] at H
   have c14b0 : (t525 == t536) = true := beq_iff_eq.mpr c14
   have c14b1 : (t525 != t536) = false := bne_eq_false_iff_eq.mpr c14
   clear c14
   by_cases c15 : ((t538 == t549 && (t539 == t550 && (t540 == t551))) && ((t541 == t552 && (t542 == t553 && (t543 == t554))) && (t544 == t555 && (t545 == t556 && (t546.toList == t557.toList))))) = true
   ·rw [if_pos c15] at H
    have c15b0 : ((t538 == t549 && (t539 == t550 && (t540 == t551))) && ((t541 == t552 && (t542 == t553 && (t543 == t554))) && (t544 == t555 && (t545 == t556 && (t546.toList == t557.toList))))) = true := c15
    clear c15
    by_cases c16 : t547 = t558
    ·rw [if_pos c16] at H
     have c16b0 : (t547 == t558) = true := beq_iff_eq.mpr c16
     have c16b1 : (t547 != t558) = false := bne_eq_false_iff_eq.mpr c16
     clear c16
     replace H := Option.bind_eq_some_iff.mp H
     obtain ⟨t560, A170, H⟩ := H
     replace H : (some t560) = some r := H
     have A17 := As A170
     clear A170
     obtain rfl := Option.some.inj H
     go_enter Tryd.func8, Tryd.ntmps8
     go_wp2_with (first | ((with_reducible refine gate_dst (N := 3) rfl ?_); refine box_event rfl (N := 3) rfl (cs := #[.bool b0, .int .u64 b1, .int .u64 b2, .bool b3, .int .u64 b4, .int .u64 b5]) (t := 26) kG ?_; intro gb513 hg w18 hbox hb; have BK513 := As (hbox); have GW513 := As ((by rw [hg]; exact (below_size (kB HB.out)) : w.heap.size ≤ gb513)); have GE513 := As ((by rw [hg]; exact (below_size (kB HB.out)) : w.heap.size ≤ gb513)); replace HB := As (below_step (kB HB.out) hb); clear hb hbox hg) | ((with_reducible refine gate_callee (f := 10) rfl ?_); refine goesL_ (some 16) rfl rfl Tryd.func10 (by kernel_rfl) rfl #[.string a2] rfl kA ?_; (with_reducible refine (intrusionlaw17_long.calls a2 false _ A4.out).mono ?_); rintro e w' ⟨rfl, ⟨nd, rfl⟩⟩; refine ⟨_, rfl, ?_⟩; (try (rw [drewN_self w18]; generalize hq_ : World.drewN w18 _ = w18; have n0_ : Aside0 (w18.heap[gb513]? = some (.cells #[.bool b0, .int .u64 b1, .int .u64 b2, .bool b3, .int .u64 b4, .int .u64 b5] 26 (0, 0))) := ⟨by rw [← hq_]; exact (kb BK513.out)⟩; have n1_ : Aside0 (Below w.heap.size w w18) := ⟨by rw [← hq_]; exact (kB1 HB.out GE513.out)⟩; clear BK513 HB hq_; have BK513 := n0_; have HB := n1_; clear n0_ n1_)); have hcz19_0 := cells_6 BK513.out; have hfz19_0 := fun j_ => blk_frozen BK513.out j_) | ((with_reducible refine gate_callee (f := 17) rfl ?_); refine goesL_ (some 24) rfl rfl Tryd.func17 (by kernel_rfl) rfl #[.agg #[.bool b0, .int .u64 b1, .int .u64 b2], .agg #[.bool b3, .int .u64 b4, .int .u64 b5], .string a2] rfl kA ?_; (with_reducible refine (tunnel_WrapIp.calls k b0 b1 b2 b3 b4 b5 a2 t516 t517 t518 t519 t520 t521 t522 t523 t524 t525 _ A9.out).mono ?_); rintro e w20 ⟨rfl, hb⟩; refine ⟨_, rfl, ?_⟩; replace BK513 := As (blk_below (kb BK513.out) hb); replace HB := As (below_step (kB1 HB.out GE513.out) hb); (try clear hb)) | ((with_reducible refine gate_dst (N := 7) rfl ?_); refine box_event rfl (N := 7) rfl (cs := #[.bool false, .int .u64 0, .int .u64 0, .bool false, .int .u64 0, .int .u64 0, .int .i64 0, .int .i64 0, .string (⟨#[]⟩ : ByteArray)]) (t := 30) kG ?_; intro gb526 hg w21 hbox hb; have BK526 := As (hbox); have GW526 := As ((by rw [hg]; exact (below_size (kB1 HB.out GE513.out)) : w.heap.size ≤ gb526)); have GE526 := As ((by rw [hg]; exact (below_size (kB1 HB.out GE513.out)) : w.heap.size ≤ gb526)); replace HB := As (below_step (kB1 HB.out GE513.out) hb); have NB513_526 := As ((by rw [hg]; exact Nat.ne_of_lt (blk_lt (kb BK513.out)) : gb513 ≠ gb526)); have NB526_513 := As ((by rw [hg]; exact Nat.ne_of_gt (blk_lt (kb BK513.out)) : gb526 ≠ gb513)); replace BK513 := As (blk_below (kb BK513.out) hb); clear hb hbox hg) | ((with_reducible refine gate_store (t := 30) (p := 7) rfl ?_); refine store_rowev_9 gb526 (.bool t516) (.int .u64 t517) (.int .u64 t518) (.bool t519) (.int .u64 t520) (.int .u64 t521) (.int .i64 t522) (.int .i64 t523) (.string t524) rfl (t := 30) (p := 7) (v := _) rfl rfl rfl rfl (t' := 30) (kb BK526.out) (by rfl) (by kernel_rfl) (by rfl) ?_; have hnb22 := NB513_526.out; have hnc22 := NB526_513.out; have hcz23_0 := cells_6 BK513.out; have hfz23_0 := fun j_ => blk_frozen BK513.out j_) | ((with_reducible refine gate_callee (f := 23) rfl ?_); refine goesL_ (some 33) rfl rfl Tryd.func23 (by kernel_rfl) rfl #[.agg #[.bool b0, .int .u64 b1, .int .u64 b2], .agg #[.bool b3, .int .u64 b4, .int .u64 b5], .string a2] rfl kA ?_; (with_reducible refine (intrusionref17_WrapIp.calls k b0 b1 b2 b3 b4 b5 a2 t527 t528 t529 t530 t531 t532 t533 t534 t535 t536 _ A10.out).mono ?_); rintro e w24 ⟨rfl, hb⟩; refine ⟨_, rfl, ?_⟩; replace BK513 := As (blk_below (g := gb513) (o := .cells #[.bool b0, .int .u64 b1, .int .u64 b2, .bool b3, .int .u64 b4, .int .u64 b5] 26 (0, 0)) (by refine kb ?_; (iterate 9 (refine blk_far ?_ NB513_526.out _; refine kb ?_)); exact BK513.out) hb); replace BK526 := As (blk_below (g := gb526) (o := .cells #[.bool t516, .int .u64 t517, .int .u64 t518, .bool t519, .int .u64 t520, .int .u64 t521, .int .i64 t522, .int .i64 t523, .string t524] 30 (0, 0)) (by refine kb ?_; exact blk_all_9 (kb BK526.out) (by rfl)) hb); replace HB := As (below_step (kB2 HB.out GE513.out GE526.out) hb); (try clear hb)) | ((with_reducible refine gate_dst (N := 9) rfl ?_); refine box_event rfl (N := 9) rfl (cs := #[.bool false, .int .u64 0, .int .u64 0, .bool false, .int .u64 0, .int .u64 0, .int .i64 0, .int .i64 0, .string (⟨#[]⟩ : ByteArray)]) (t := 30) kG ?_; intro gb537 hg w25 hbox hb; have BK537 := As (hbox); have GW537 := As ((by rw [hg]; exact (below_size (kB2 HB.out GE513.out GE526.out)) : w.heap.size ≤ gb537)); have GE537 := As ((by rw [hg]; exact (below_size (kB2 HB.out GE513.out GE526.out)) : w.heap.size ≤ gb537)); replace HB := As (below_step (kB2 HB.out GE513.out GE526.out) hb); have NB513_537 := As ((by rw [hg]; exact Nat.ne_of_lt (blk_lt (kb BK513.out)) : gb513 ≠ gb537)); have NB537_513 := As ((by rw [hg]; exact Nat.ne_of_gt (blk_lt (kb BK513.out)) : gb537 ≠ gb513)); replace BK513 := As (blk_below (kb BK513.out) hb); have NB526_537 := As ((by rw [hg]; exact Nat.ne_of_lt (blk_lt (kb BK526.out)) : gb526 ≠ gb537)); have NB537_526 := As ((by rw [hg]; exact Nat.ne_of_gt (blk_lt (kb BK526.out)) : gb537 ≠ gb526)); replace BK526 := As (blk_below (kb BK526.out) hb); clear hb hbox hg) | ((with_reducible refine gate_store (t := 30) (p := 9) rfl ?_); refine store_rowev_9 gb537 (.bool t527) (.int .u64 t528) (.int .u64 t529) (.bool t530) (.int .u64 t531) (.int .u64 t532) (.int .i64 t533) (.int .i64 t534) (.string t535) rfl (t := 30) (p := 9) (v := _) rfl rfl rfl rfl (t' := 30) (kb BK537.out) (by rfl) (by kernel_rfl) (by rfl) ?_; have hnb26 := NB513_537.out; have hnc26 := NB537_513.out; have hcz27_0 := cells_6 BK513.out; have hfz27_0 := fun j_ => blk_frozen BK513.out j_) | ((with_reducible refine gate_callee (f := 24) rfl ?_); refine goesL_ (some 43) rfl rfl Tryd.func24 (by kernel_rfl) rfl #[.agg #[.bool b0, .int .u64 b1, .int .u64 b2], .agg #[.bool b3, .int .u64 b4, .int .u64 b5], .int .i64 a1, .string a2] rfl kA ?_; (with_reducible refine (tunnel_WrapVxlan.calls k b0 b1 b2 b3 b4 b5 a1 a2 t538 t539 t540 t541 t542 t543 t544 t545 t546 t547 _ ?side1 A11.out).mono ?_); (case side1 => exact laid_below HLD.out (kB3 HB.out GE513.out GE526.out GE537.out)); rintro e w28 ⟨rfl, hb⟩; refine ⟨_, rfl, ?_⟩; replace BK513 := As (blk_below (g := gb513) (o := .cells #[.bool b0, .int .u64 b1, .int .u64 b2, .bool b3, .int .u64 b4, .int .u64 b5] 26 (0, 0)) (by refine kb ?_; (iterate 9 (refine blk_far ?_ NB513_537.out _; refine kb ?_)); exact BK513.out) hb); replace BK526 := As (blk_below (g := gb526) (o := .cells #[.bool t516, .int .u64 t517, .int .u64 t518, .bool t519, .int .u64 t520, .int .u64 t521, .int .i64 t522, .int .i64 t523, .string t524] 30 (0, 0)) (by refine kb ?_; (iterate 9 (refine blk_far ?_ NB526_537.out _; refine kb ?_)); exact BK526.out) hb); replace BK537 := As (blk_below (g := gb537) (o := .cells #[.bool t527, .int .u64 t528, .int .u64 t529, .bool t530, .int .u64 t531, .int .u64 t532, .int .i64 t533, .int .i64 t534, .string t535] 30 (0, 0)) (by refine kb ?_; exact blk_all_9 (kb BK537.out) (by rfl)) hb); replace HB := As (below_step (kB3 HB.out GE513.out GE526.out GE537.out) hb); (try clear hb)) | ((with_reducible refine gate_dst (N := 11) rfl ?_); refine box_event rfl (N := 11) rfl (cs := #[.bool false, .int .u64 0, .int .u64 0, .bool false, .int .u64 0, .int .u64 0, .int .i64 0, .int .i64 0, .string (⟨#[]⟩ : ByteArray)]) (t := 30) kG ?_; intro gb548 hg w29 hbox hb; have BK548 := As (hbox); have GW548 := As ((by rw [hg]; exact (below_size (kB3 HB.out GE513.out GE526.out GE537.out)) : w.heap.size ≤ gb548)); have GE548 := As ((by rw [hg]; exact (below_size (kB3 HB.out GE513.out GE526.out GE537.out)) : w.heap.size ≤ gb548)); replace HB := As (below_step (kB3 HB.out GE513.out GE526.out GE537.out) hb); have NB513_548 := As ((by rw [hg]; exact Nat.ne_of_lt (blk_lt (kb BK513.out)) : gb513 ≠ gb548)); have NB548_513 := As ((by rw [hg]; exact Nat.ne_of_gt (blk_lt (kb BK513.out)) : gb548 ≠ gb513)); replace BK513 := As (blk_below (kb BK513.out) hb); have NB526_548 := As ((by rw [hg]; exact Nat.ne_of_lt (blk_lt (kb BK526.out)) : gb526 ≠ gb548)); have NB548_526 := As ((by rw [hg]; exact Nat.ne_of_gt (blk_lt (kb BK526.out)) : gb548 ≠ gb526)); replace BK526 := As (blk_below (kb BK526.out) hb); have NB537_548 := As ((by rw [hg]; exact Nat.ne_of_lt (blk_lt (kb BK537.out)) : gb537 ≠ gb548)); have NB548_537 := As ((by rw [hg]; exact Nat.ne_of_gt (blk_lt (kb BK537.out)) : gb548 ≠ gb537)); replace BK537 := As (blk_below (kb BK537.out) hb); clear hb hbox hg) | ((with_reducible refine gate_store (t := 30) (p := 11) rfl ?_); refine store_rowev_9 gb548 (.bool t538) (.int .u64 t539) (.int .u64 t540) (.bool t541) (.int .u64 t542) (.int .u64 t543) (.int .i64 t544) (.int .i64 t545) (.string t546) rfl (t := 30) (p := 11) (v := _) rfl rfl rfl rfl (t' := 30) (kb BK548.out) (by rfl) (by kernel_rfl) (by rfl) ?_; have hnb30 := NB513_548.out; have hnc30 := NB548_513.out; have hcz31_0 := cells_6 BK513.out; have hfz31_0 := fun j_ => blk_frozen BK513.out j_) | ((with_reducible refine gate_callee (f := 25) rfl ?_); refine goesL_ (some 53) rfl rfl Tryd.func25 (by kernel_rfl) rfl #[.agg #[.bool b0, .int .u64 b1, .int .u64 b2], .agg #[.bool b3, .int .u64 b4, .int .u64 b5], .int .i64 a1, .string a2] rfl kA ?_; (with_reducible refine (intrusionref17_WrapVxlan.calls k b0 b1 b2 b3 b4 b5 a1 a2 t549 t550 t551 t552 t553 t554 t555 t556 t557 t558 _ A12.out).mono ?_); rintro e w32 ⟨rfl, hb⟩; refine ⟨_, rfl, ?_⟩; replace BK513 := As (blk_below (g := gb513) (o := .cells #[.bool b0, .int .u64 b1, .int .u64 b2, .bool b3, .int .u64 b4, .int .u64 b5] 26 (0, 0)) (by refine kb ?_; (iterate 9 (refine blk_far ?_ NB513_548.out _; refine kb ?_)); exact BK513.out) hb); replace BK526 := As (blk_below (g := gb526) (o := .cells #[.bool t516, .int .u64 t517, .int .u64 t518, .bool t519, .int .u64 t520, .int .u64 t521, .int .i64 t522, .int .i64 t523, .string t524] 30 (0, 0)) (by refine kb ?_; (iterate 9 (refine blk_far ?_ NB526_548.out _; refine kb ?_)); exact BK526.out) hb); replace BK537 := As (blk_below (g := gb537) (o := .cells #[.bool t527, .int .u64 t528, .int .u64 t529, .bool t530, .int .u64 t531, .int .u64 t532, .int .i64 t533, .int .i64 t534, .string t535] 30 (0, 0)) (by refine kb ?_; (iterate 9 (refine blk_far ?_ NB537_548.out _; refine kb ?_)); exact BK537.out) hb); replace BK548 := As (blk_below (g := gb548) (o := .cells #[.bool t538, .int .u64 t539, .int .u64 t540, .bool t541, .int .u64 t542, .int .u64 t543, .int .i64 t544, .int .i64 t545, .string t546] 30 (0, 0)) (by refine kb ?_; exact blk_all_9 (kb BK548.out) (by rfl)) hb); replace HB := As (below_step (by repeat (first | (with_reducible first | exact HB.out | apply below_alloc | apply pw_below_drewN | apply below_drew1 | refine below_set ?_ GE513.out | refine below_set ?_ GE526.out | refine below_set ?_ GE537.out | refine below_set ?_ GE548.out) | exact HB.out)) hb); (try clear hb)) | ((with_reducible refine gate_dst (N := 13) rfl ?_); refine box_event rfl (N := 13) rfl (cs := #[.bool false, .int .u64 0, .int .u64 0, .bool false, .int .u64 0, .int .u64 0, .int .i64 0, .int .i64 0, .string (⟨#[]⟩ : ByteArray)]) (t := 30) kG ?_; intro gb559 hg w33 hbox hb; have BK559 := As (hbox); have GW559 := As ((by rw [hg]; exact (below_size (by repeat (first | (with_reducible first | exact HB.out | apply below_alloc | apply pw_below_drewN | apply below_drew1 | refine below_set ?_ GE513.out | refine below_set ?_ GE526.out | refine below_set ?_ GE537.out | refine below_set ?_ GE548.out) | exact HB.out))) : w.heap.size ≤ gb559)); have GE559 := As ((by rw [hg]; exact (below_size (by repeat (first | (with_reducible first | exact HB.out | apply below_alloc | apply pw_below_drewN | apply below_drew1 | refine below_set ?_ GE513.out | refine below_set ?_ GE526.out | refine below_set ?_ GE537.out | refine below_set ?_ GE548.out) | exact HB.out))) : w.heap.size ≤ gb559)); replace HB := As (below_step (by repeat (first | (with_reducible first | exact HB.out | apply below_alloc | apply pw_below_drewN | apply below_drew1 | refine below_set ?_ GE513.out | refine below_set ?_ GE526.out | refine below_set ?_ GE537.out | refine below_set ?_ GE548.out) | exact HB.out)) hb); have NB513_559 := As ((by rw [hg]; exact Nat.ne_of_lt (blk_lt (kb BK513.out)) : gb513 ≠ gb559)); have NB559_513 := As ((by rw [hg]; exact Nat.ne_of_gt (blk_lt (kb BK513.out)) : gb559 ≠ gb513)); replace BK513 := As (blk_below (kb BK513.out) hb); have NB526_559 := As ((by rw [hg]; exact Nat.ne_of_lt (blk_lt (kb BK526.out)) : gb526 ≠ gb559)); have NB559_526 := As ((by rw [hg]; exact Nat.ne_of_gt (blk_lt (kb BK526.out)) : gb559 ≠ gb526)); replace BK526 := As (blk_below (kb BK526.out) hb); have NB537_559 := As ((by rw [hg]; exact Nat.ne_of_lt (blk_lt (kb BK537.out)) : gb537 ≠ gb559)); have NB559_537 := As ((by rw [hg]; exact Nat.ne_of_gt (blk_lt (kb BK537.out)) : gb559 ≠ gb537)); replace BK537 := As (blk_below (kb BK537.out) hb); have NB548_559 := As ((by rw [hg]; exact Nat.ne_of_lt (blk_lt (kb BK548.out)) : gb548 ≠ gb559)); have NB559_548 := As ((by rw [hg]; exact Nat.ne_of_gt (blk_lt (kb BK548.out)) : gb559 ≠ gb548)); replace BK548 := As (blk_below (kb BK548.out) hb); clear hb hbox hg) | ((with_reducible refine gate_store (t := 30) (p := 13) rfl ?_); refine store_rowev_9 gb559 (.bool t549) (.int .u64 t550) (.int .u64 t551) (.bool t552) (.int .u64 t553) (.int .u64 t554) (.int .i64 t555) (.int .i64 t556) (.string t557) rfl (t := 30) (p := 13) (v := _) rfl rfl rfl rfl (t' := 30) (kb BK559.out) (by rfl) (by kernel_rfl) (by rfl) ?_) | ((with_reducible refine gate_dst (N := 56) rfl ?_); (try (refine gate_guard (by rfl) ?_; dsimp only)); refine wpList_load_row ?hgd 30 _ rfl gb526 rfl 30 #[.bool t516, .int .u64 t517, .int .u64 t518, .bool t519, .int .u64 t520, .int .u64 t521, .int .i64 t522, .int .i64 t523, .string t524] (0, 0) _ (by refine kb ?_; (iterate 9 (refine blk_far ?_ NB526_559.out _; refine kb ?_)); exact BK526.out) Tryd.underlying30 rfl (by kernel_rfl) ?_; (case hgd => rfl)) | ((with_reducible refine gate_dst (N := 57) rfl ?_); (try (refine gate_guard (by rfl) ?_; dsimp only)); refine wpList_load_row ?hgd 30 _ rfl gb537 rfl 30 #[.bool t527, .int .u64 t528, .int .u64 t529, .bool t530, .int .u64 t531, .int .u64 t532, .int .i64 t533, .int .i64 t534, .string t535] (0, 0) _ (by refine kb ?_; (iterate 9 (refine blk_far ?_ NB537_559.out _; refine kb ?_)); exact BK537.out) Tryd.underlying30 rfl (by kernel_rfl) ?_; (case hgd => rfl)) | ((with_reducible refine gate_dst (N := 65) rfl ?_); (try (refine gate_guard (by rfl) ?_; dsimp only)); refine wpList_load_row ?hgd 30 _ rfl gb548 rfl 30 #[.bool t538, .int .u64 t539, .int .u64 t540, .bool t541, .int .u64 t542, .int .u64 t543, .int .i64 t544, .int .i64 t545, .string t546] (0, 0) _ (by refine kb ?_; (iterate 9 (refine blk_far ?_ NB548_559.out _; refine kb ?_)); exact BK548.out) Tryd.underlying30 rfl (by kernel_rfl) ?_; (case hgd => rfl)) | ((with_reducible refine gate_dst (N := 66) rfl ?_); (try (refine gate_guard (by rfl) ?_; dsimp only)); refine wpList_load_row ?hgd 30 _ rfl gb559 rfl 30 #[.bool t549, .int .u64 t550, .int .u64 t551, .bool t552, .int .u64 t553, .int .u64 t554, .int .i64 t555, .int .i64 t556, .string t557] (0, 0) _ (by refine kb ?_; exact blk_all_9 (kb BK559.out) (by rfl)) Tryd.underlying30 rfl (by kernel_rfl) ?_; (case hgd => rfl)) | (go_at_call 11; (with_reducible refine (intrusionlaw17_awake.calls k  t560 _ ?side1 A17.out).mono ?_); (case side1 => exact laid_below HLD.out (by repeat (first | (with_reducible first | exact HB.out | apply below_alloc | apply pw_below_drewN | apply below_drew1 | refine below_set ?_ GE513.out | refine below_set ?_ GE526.out | refine below_set ?_ GE537.out | refine below_set ?_ GE548.out | refine below_set ?_ GE559.out) | exact HB.out))); rintro e w34 ⟨rfl, hb⟩; replace BK513 := As (blk_below (g := gb513) (o := .cells #[.bool b0, .int .u64 b1, .int .u64 b2, .bool b3, .int .u64 b4, .int .u64 b5] 26 (0, 0)) (by refine kb ?_; (iterate 9 (refine blk_far ?_ NB513_559.out _; refine kb ?_)); exact BK513.out) hb); replace BK526 := As (blk_below (g := gb526) (o := .cells #[.bool t516, .int .u64 t517, .int .u64 t518, .bool t519, .int .u64 t520, .int .u64 t521, .int .i64 t522, .int .i64 t523, .string t524] 30 (0, 0)) (by refine kb ?_; (iterate 9 (refine blk_far ?_ NB526_559.out _; refine kb ?_)); exact BK526.out) hb); replace BK537 := As (blk_below (g := gb537) (o := .cells #[.bool t527, .int .u64 t528, .int .u64 t529, .bool t530, .int .u64 t531, .int .u64 t532, .int .i64 t533, .int .i64 t534, .string t535] 30 (0, 0)) (by refine kb ?_; (iterate 9 (refine blk_far ?_ NB537_559.out _; refine kb ?_)); exact BK537.out) hb); replace BK548 := As (blk_below (g := gb548) (o := .cells #[.bool t538, .int .u64 t539, .int .u64 t540, .bool t541, .int .u64 t542, .int .u64 t543, .int .i64 t544, .int .i64 t545, .string t546] 30 (0, 0)) (by refine kb ?_; (iterate 9 (refine blk_far ?_ NB548_559.out _; refine kb ?_)); exact BK548.out) hb); replace BK559 := As (blk_below (g := gb559) (o := .cells #[.bool t549, .int .u64 t550, .int .u64 t551, .bool t552, .int .u64 t553, .int .u64 t554, .int .i64 t555, .int .i64 t556, .string t557] 30 (0, 0)) (by refine kb ?_; exact blk_all_9 (kb BK559.out) (by rfl)) hb); replace HB := As (below_step (by repeat (first | (with_reducible first | exact HB.out | apply below_alloc | apply pw_below_drewN | apply below_drew1 | refine below_set ?_ GE513.out | refine below_set ?_ GE526.out | refine below_set ?_ GE537.out | refine below_set ?_ GE548.out | refine below_set ?_ GE559.out) | exact HB.out)) hb); (try clear hb)))
     go_ret
     exact ⟨kE, by repeat (first | (with_reducible first | exact HB.out | apply below_alloc | apply pw_below_drewN | apply below_drew1 | refine below_set ?_ GE513.out | refine below_set ?_ GE526.out | refine below_set ?_ GE537.out | refine below_set ?_ GE548.out | refine below_set ?_ GE559.out) | exact HB.out)⟩
    rw [if_neg c16] at H
    exact absurd H (by simp)
   rw [if_neg c15] at H
   exact absurd H (by simp)
  rw [if_neg c14] at H
  exact absurd H (by simp)
 rw [if_neg c13] at H
 exact absurd H (by simp)

end Go.Proofs.YtocobalkikkhlaaDoor.X
-- short
