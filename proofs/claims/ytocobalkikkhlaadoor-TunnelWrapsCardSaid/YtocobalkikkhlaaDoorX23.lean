/- Functions and their walks, printed by xprint.py. -/
import Derived.Test.YtocobalkikkhlaaDoorX0
import Derived.Test.YtocobalkikkhlaaDoorX13
import Derived.Test.YtocobalkikkhlaaDoorX14
import Derived.Test.YtocobalkikkhlaaDoorX22
namespace Go.Proofs.YtocobalkikkhlaaDoor.X
open Go.RowKit Go.Proofs.YtocobalkikkhlaaDoorW.PrintWords Go.Proofs.YtocobalkikkhlaaDoorW.PrintLast Go.Proofs.YtocobalkikkhlaaDoorW.PrintMore
attribute [local go_sem] max2_int min2_int max_two min_two max_three min_three max_four min_four   -- for this text's walks alone
set_option linter.unusedVariables false
set_option linter.unusedSimpArgs false

/-! ### intrusionref13_Encode: function 52 -/
def intrusionref13_Encode.j0 : Nat → Bool → Bool → Int → Int → Bool → Int → Int → Int → Int → ByteArray → Option (ByteArray × Int)
 | 0, _, _, _, _, _, _, _, _, _, _ => none
 | k + 1, x30, x488000, x488001, x488002, x489000, x489001, x489002, x490000, x490001, x490002 => if x30 = true then (some ((⟨#[]⟩ : ByteArray), 4)) else (if (x490002.size : Int) > 65507 then (some ((⟨#[]⟩ : ByteArray), 3)) else ((intrusionref01_Put.f k x490000 2).bind fun t491 => ((intrusionref01_Put.f k x490001 2).bind fun t492 => (if t491.size + t492.size ≤ 9223372036854775807 then ((intrusionref01_Put.f k (wrap64 (8 + (x490002.size : Int))) 2).bind fun t493 => (if (t491 ++ t492).size + t493.size ≤ 9223372036854775807 then (if ((t491 ++ t492) ++ t493).size + 2 ≤ 9223372036854775807 then (if (((t491 ++ t492) ++ t493) ++ (⟨#[0, 0]⟩ : ByteArray)).size + x490002.size ≤ 9223372036854775807 then ((intrusionref13_Sum.f k x488000 x488001 x488002 x489000 x489001 x489002 ((((t491 ++ t492) ++ t493) ++ (⟨#[0, 0]⟩ : ByteArray)) ++ x490002)).bind fun t494 => ((intrusionref01_Put.f k t494 2).bind fun t495 => (if ((t491 ++ t492) ++ t493).size + t495.size ≤ 9223372036854775807 then (if (((t491 ++ t492) ++ t493) ++ t495).size + x490002.size ≤ 9223372036854775807 then (some ((((t491 ++ t492) ++ t493) ++ t495) ++ x490002, 0)) else (none)) else (none)))) else (none)) else (none)) else (none))) else (none)))))
def intrusionref13_Encode.f (k : Nat) (b0 : Bool) (b1 : Int) (b2 : Int) (d0 : Bool) (d1 : Int) (d2 : Int) (a2_0 : Int) (a2_1 : Int) (a2_2 : ByteArray) : Option (ByteArray × Int) := (intrusionref13_Fit.f b0 b1 b2 d0 d1 d2).bind fun t490 => (if t490 = true then (if a2_0 < 0 then (intrusionref13_Encode.j0 k true b0 b1 b2 d0 d1 d2 a2_0 a2_1 a2_2) else (if a2_0 > 65535 then (intrusionref13_Encode.j0 k true b0 b1 b2 d0 d1 d2 a2_0 a2_1 a2_2) else (if a2_1 < 0 then (intrusionref13_Encode.j0 k true b0 b1 b2 d0 d1 d2 a2_0 a2_1 a2_2) else (intrusionref13_Encode.j0 k (decide (a2_1 > 65535)) b0 b1 b2 d0 d1 d2 a2_0 a2_1 a2_2)))) else (some ((⟨#[]⟩ : ByteArray), 13)))
theorem intrusionref13_Encode.mono_l : ∀ k, (∀ y0 y1 y2 y3 y4 y5 y6 y7 y8 y9, LeO (intrusionref13_Encode.j0 k y0 y1 y2 y3 y4 y5 y6 y7 y8 y9) (intrusionref13_Encode.j0 (k + 1) y0 y1 y2 y3 y4 y5 y6 y7 y8 y9))
 | 0 => fun _ _ _ _ _ _ _ _ _ _ r h => by simp [intrusionref13_Encode.j0] at h
 | k + 1 => by
  have ih0 := intrusionref13_Encode.mono_l k
  intro y0 y1 y2 y3 y4 y5 y6 y7 y8 y9
  unfold intrusionref13_Encode.j0
  repeat' first | with_reducible first | apply ih0 | apply intrusionref01_Put.mono | apply intrusionref13_Sum.mono | apply LeO.refl | apply LeO.none | refine LeO.ite ?_ ?_ | refine LeO.bind ?_ (fun _ => ?_)
theorem intrusionref13_Encode.mono : ∀ a0 a1 a2 a3 a4 a5 a6 a7 a8 k, LeO (intrusionref13_Encode.f k a0 a1 a2 a3 a4 a5 a6 a7 a8) (intrusionref13_Encode.f (k + 1) a0 a1 a2 a3 a4 a5 a6 a7 a8) := by
 intro a0 a1 a2 a3 a4 a5 a6 a7 a8 k
 have ih0 := intrusionref13_Encode.mono_l k
 unfold intrusionref13_Encode.f
 repeat' first | with_reducible first | apply ih0 | apply intrusionref01_Put.mono | apply intrusionref13_Sum.mono | apply LeO.refl | apply LeO.none | refine LeO.ite ?_ ?_ | refine LeO.bind ?_ (fun _ => ?_)
def intrusionref13_Encode.T7 : Bool × List (List Nat × List Nat) := (true, [([], []), ([0], [0]), ([1], [1]), ([], []), ([3], [3]), ([4, 2], [4]), ([2, 5], [2, 5]), ([], []), ([7], [7]), ([8], [8]), ([9], [9]), ([10, 5], [10]), ([6, 11], [6, 11]), ([12, 11, 0, 1, 2, 3, 4, 5, 6, 7, 8, 9, 10, 11, 12], [12])])
def intrusionref13_Encode.B7 : List Nat := [0, 1, 3, 0, 8, 31, 63, 0, 128, 384, 896, 1983, 4095, 8191]
theorem intrusionref13_Encode.tab7 : rtab .any (opsOf Tryd.f52 7) = intrusionref13_Encode.T7 := by kernel_rfl
theorem intrusionref13_Encode.bits7 : waitsOk intrusionref13_Encode.T7.2 intrusionref13_Encode.B7 = true := by kernel_rfl
def intrusionref13_Encode.T8 : Bool × List (List Nat × List Nat) := (true, [([], []), ([], []), ([], []), ([], []), ([3], [3]), ([], []), ([5], [5]), ([4, 6], [4, 6]), ([1, 2, 7], [1, 2, 7]), ([8, 8], [8]), ([0, 9], [0, 9]), ([], []), ([11], [11]), ([10, 12], [10, 12]), ([13, 9, 0, 1, 2, 3, 4, 5, 6, 7, 8, 9, 10, 11, 12, 13], [13]), ([14, 0, 1, 2, 3, 4, 5, 6, 7, 8, 9, 10, 11, 12, 13, 14], [])])
def intrusionref13_Encode.B8 : List Nat := [0, 0, 0, 0, 8, 0, 32, 120, 254, 510, 1023, 0, 2048, 8191, 16383, 32767]
theorem intrusionref13_Encode.tab8 : rtab .any (opsOf Tryd.f52 8) = intrusionref13_Encode.T8 := by kernel_rfl
theorem intrusionref13_Encode.bits8 : waitsOk intrusionref13_Encode.T8.2 intrusionref13_Encode.B8 = true := by kernel_rfl
set_option maxHeartbeats 8000000 in
set_option maxRecDepth 100000 in
theorem intrusionref13_Encode.calls (k : Nat) (b0 : Bool) (b1 : Int) (b2 : Int) (d0 : Bool) (d1 : Int) (d2 : Int) (a2_0 : Int) (a2_1 : Int) (a2_2 : ByteArray) (r1 : ByteArray) (r2 : Int) (w : World) (h : intrusionref13_Encode.f k b0 b1 b2 d0 d1 d2 a2_0 a2_1 a2_2 = some (r1, r2)) :
  Calls Tryd.prog 52 #[.agg #[.bool b0, .int .u64 b1, .int .u64 b2], .agg #[.bool d0, .int .u64 d1, .int .u64 d2], .agg #[.int .i64 a2_0, .int .i64 a2_1, .string a2_2]] w fun e w' => e = .returned (.tuple #[.string r1, .int .i64 r2]) ∧ Below w.heap.size w w' := by
 have hu24 := Tryd.underlying24
 have hu85 := Tryd.underlying85
 have HB := As (Below.refl w.heap.size w)
 have H : ((intrusionref13_Fit.f b0 b1 b2 d0 d1 d2).bind fun t490 => (if t490 = true then (if a2_0 < 0 then (intrusionref13_Encode.j0 k true b0 b1 b2 d0 d1 d2 a2_0 a2_1 a2_2) else (if a2_0 > 65535 then (intrusionref13_Encode.j0 k true b0 b1 b2 d0 d1 d2 a2_0 a2_1 a2_2) else (if a2_1 < 0 then (intrusionref13_Encode.j0 k true b0 b1 b2 d0 d1 d2 a2_0 a2_1 a2_2) else (intrusionref13_Encode.j0 k (decide (a2_1 > 65535)) b0 b1 b2 d0 d1 d2 a2_0 a2_1 a2_2)))) else (some ((⟨#[]⟩ : ByteArray), 13)))) = some (r1, r2) := h
 clear h
 replace H := Option.bind_eq_some_iff.mp H
 obtain ⟨t490, A40, H⟩ := H
 replace H : (if t490 = true then (if a2_0 < 0 then (intrusionref13_Encode.j0 k true b0 b1 b2 d0 d1 d2 a2_0 a2_1 a2_2) else (if a2_0 > 65535 then (intrusionref13_Encode.j0 k true b0 b1 b2 d0 d1 d2 a2_0 a2_1 a2_2) else (if a2_1 < 0 then (intrusionref13_Encode.j0 k true b0 b1 b2 d0 d1 d2 a2_0 a2_1 a2_2) else (intrusionref13_Encode.j0 k (decide (a2_1 > 65535)) b0 b1 b2 d0 d1 d2 a2_0 a2_1 a2_2)))) else (some ((⟨#[]⟩ : ByteArray), 13))) = some (r1, r2) := H
 have A4 := As A40
 clear A40
 by_cases c5 : t490 = true
 ·subst c5
  have H1 : (if a2_0 < 0 then (intrusionref13_Encode.j0 k true b0 b1 b2 d0 d1 d2 a2_0 a2_1 a2_2) else (if a2_0 > 65535 then (intrusionref13_Encode.j0 k true b0 b1 b2 d0 d1 d2 a2_0 a2_1 a2_2) else (if a2_1 < 0 then (intrusionref13_Encode.j0 k true b0 b1 b2 d0 d1 d2 a2_0 a2_1 a2_2) else (intrusionref13_Encode.j0 k (decide (a2_1 > 65535)) b0 b1 b2 d0 d1 d2 a2_0 a2_1 a2_2)))) = some (r1, r2) := by rw [if_pos rfl] at H; exact H
  clear H
  have H := H1
  clear H1
  have HC6 := As H
  clear H
  go_enter Tryd.func52, Tryd.ntmps52
  go_upto_region 3 with (first | ((with_reducible refine gate_dst (N := 3) rfl ?_); refine box_event rfl (N := 3) rfl (cs := #[.bool b0, .int .u64 b1, .int .u64 b2]) (t := 24) kG ?_; intro gb487 hg w7 hbox hb; have BK487 := As (hbox); have GW487 := As ((by rw [hg]; exact (below_size (kB HB.out)) : w.heap.size ≤ gb487)); have GE487 := As ((by rw [hg]; exact (below_size (kB HB.out)) : w.heap.size ≤ gb487)); replace HB := As (below_step (kB HB.out) hb); clear hb hbox hg) | ((with_reducible refine gate_dst (N := 4) rfl ?_); refine box_event rfl (N := 4) rfl (cs := #[.bool d0, .int .u64 d1, .int .u64 d2]) (t := 24) kG ?_; intro gb488 hg w8 hbox hb; have BK488 := As (hbox); have GW488 := As ((by rw [hg]; exact (below_size (kB1 HB.out GE487.out)) : w.heap.size ≤ gb488)); have GE488 := As ((by rw [hg]; exact (below_size (kB1 HB.out GE487.out)) : w.heap.size ≤ gb488)); replace HB := As (below_step (kB1 HB.out GE487.out) hb); have NB487_488 := As ((by rw [hg]; exact Nat.ne_of_lt (blk_lt (kb BK487.out)) : gb487 ≠ gb488)); have NB488_487 := As ((by rw [hg]; exact Nat.ne_of_gt (blk_lt (kb BK487.out)) : gb488 ≠ gb487)); replace BK487 := As (blk_below (kb BK487.out) hb); clear hb hbox hg) | ((with_reducible refine gate_dst (N := 5) rfl ?_); refine box_event rfl (N := 5) rfl (cs := #[.int .i64 a2_0, .int .i64 a2_1, .string a2_2]) (t := 85) kG ?_; intro gb489 hg w9 hbox hb; have BK489 := As (hbox); have GW489 := As ((by rw [hg]; exact (below_size (kB2 HB.out GE487.out GE488.out)) : w.heap.size ≤ gb489)); have GE489 := As ((by rw [hg]; exact (below_size (kB2 HB.out GE487.out GE488.out)) : w.heap.size ≤ gb489)); replace HB := As (below_step (kB2 HB.out GE487.out GE488.out) hb); have NB487_489 := As ((by rw [hg]; exact Nat.ne_of_lt (blk_lt (kb BK487.out)) : gb487 ≠ gb489)); have NB489_487 := As ((by rw [hg]; exact Nat.ne_of_gt (blk_lt (kb BK487.out)) : gb489 ≠ gb487)); replace BK487 := As (blk_below (kb BK487.out) hb); have NB488_489 := As ((by rw [hg]; exact Nat.ne_of_lt (blk_lt (kb BK488.out)) : gb488 ≠ gb489)); have NB489_488 := As ((by rw [hg]; exact Nat.ne_of_gt (blk_lt (kb BK488.out)) : gb489 ≠ gb488)); replace BK488 := As (blk_below (kb BK488.out) hb); clear hb hbox hg; have hnb10 := NB487_488.out; have hnc10 := NB488_487.out; have hnb11 := NB487_489.out; have hnc11 := NB489_487.out; have hcz12_0 := cells_3 BK487.out; have hfz12_0 := fun j_ => blk_frozen BK487.out j_; have hnb13 := NB488_489.out; have hnc13 := NB489_488.out; have hcz14_0 := cells_3 BK488.out; have hfz14_0 := fun j_ => blk_frozen BK488.out j_) | ((with_reducible refine gate_callee (f := 93) rfl ?_); refine goesL_ (some 11) rfl rfl Tryd.func93 (by kernel_rfl) rfl #[.agg #[.bool b0, .int .u64 b1, .int .u64 b2], .agg #[.bool d0, .int .u64 d1, .int .u64 d2]] rfl kA ?_; (with_reducible refine (intrusionref13_Fit.calls b0 b1 b2 d0 d1 d2 true _ A4.out).mono ?_); rintro e w15 ⟨rfl, hb⟩; refine ⟨_, rfl, ?_⟩; replace BK487 := As (blk_below (kb BK487.out) hb); replace BK488 := As (blk_below (kb BK488.out) hb); replace BK489 := As (blk_below (kb BK489.out) hb); replace HB := As (below_step (kB3 HB.out GE487.out GE488.out GE489.out) hb); (try clear hb)))
  (try simp only [Act.put, sA, sZ, sS])
  go_cut [30] (fun v30 wc => ∃ (kq : Nat) (x30_5 : Bool), v30 = .bool x30_5 ∧ Aside0 (intrusionref13_Encode.j0 kq x30_5 b0 b1 b2 d0 d1 d2 a2_0 a2_1 a2_2 = some (r1, r2)) ∧ Aside0 (kq ≤ k) ∧ Aside0 (wc.heap[gb487]? = some (.cells #[.bool b0, .int .u64 b1, .int .u64 b2] 24 (0, 0))) ∧ Aside0 (wc.heap[gb488]? = some (.cells #[.bool d0, .int .u64 d1, .int .u64 d2] 24 (0, 0))) ∧ Aside0 (wc.heap[gb489]? = some (.cells #[.int .i64 a2_0, .int .i64 a2_1, .string a2_2] 85 (0, 0))) ∧ Aside0 (Below w.heap.size w wc))
  case first =>
   have H := HC6.out
   clear HC6
   by_cases c16 : a2_0 < 0
   ·rw [if_pos c16] at H
    have c16b0 : decide (a2_0 < 0) = true := decide_eq_true c16
    clear c16
    (first | rw [c16b0] | (simp only [i64_w, i32_w]; rw [c16b0]) | skip)
    have H' := As H
    clear H
    have hnb17 := NB489_487.out
    have hnc17 := NB487_489.out
    have hnb18 := NB489_488.out
    have hnc18 := NB488_489.out
    have hcz19_0 := cells_3 BK489.out
    have hfz19_0 := fun j_ => blk_frozen BK489.out j_
    go_wp2
    go_meet
    case rel => exact ⟨_, (true), kS, H', ⟨by first | omega | exact Nat.le_refl _⟩, ⟨kb BK487.out⟩, ⟨kb BK488.out⟩, ⟨kb BK489.out⟩, ⟨kB3 HB.out GE487.out GE488.out GE489.out⟩⟩
   rw [if_neg c16] at H
   have c16b0 : decide (a2_0 < 0) = false := decide_eq_false c16
   clear c16
   (first | rw [c16b0] | (simp only [i64_w, i32_w]; rw [c16b0]) | skip)
   by_cases c20 : a2_0 > 65535
   ·rw [if_pos c20] at H
    have c20b0 : decide (65535 < a2_0) = true := decide_eq_true c20
    clear c20
    have H' := As H
    clear H
    have hnb21 := NB489_487.out
    have hnc21 := NB487_489.out
    have hnb22 := NB489_488.out
    have hnc22 := NB488_489.out
    have hcz23_0 := cells_3 BK489.out
    have hfz23_0 := fun j_ => blk_frozen BK489.out j_
    go_wp2
    go_meet
    case rel => exact ⟨_, (true), kS, H', ⟨by first | omega | exact Nat.le_refl _⟩, ⟨kb BK487.out⟩, ⟨kb BK488.out⟩, ⟨kb BK489.out⟩, ⟨kB3 HB.out GE487.out GE488.out GE489.out⟩⟩
   rw [if_neg c20] at H
   have c20b0 : decide (65535 < a2_0) = false := decide_eq_false c20
   clear c20
   by_cases c24 : a2_1 < 0
   ·rw [if_pos c24] at H
    have c24b0 : decide (a2_1 < 0) = true := decide_eq_true c24
    clear c24
    have H' := As H
    clear H
    have hnb25 := NB489_487.out
    have hnc25 := NB487_489.out
    have hnb26 := NB489_488.out
    have hnc26 := NB488_489.out
    have hcz27_0 := cells_3 BK489.out
    have hfz27_0 := fun j_ => blk_frozen BK489.out j_
    go_wp2
    go_meet
    case rel => exact ⟨_, (true), kS, H', ⟨by first | omega | exact Nat.le_refl _⟩, ⟨kb BK487.out⟩, ⟨kb BK488.out⟩, ⟨kb BK489.out⟩, ⟨kB3 HB.out GE487.out GE488.out GE489.out⟩⟩
   rw [if_neg c24] at H
   have c24b0 : decide (a2_1 < 0) = false := decide_eq_false c24
   clear c24
   have H' := As H
   clear H
   have hnb28 := NB489_487.out
   have hnc28 := NB487_489.out
   have hnb29 := NB489_488.out
   have hnc29 := NB488_489.out
   have hcz30_0 := cells_3 BK489.out
   have hfz30_0 := fun j_ => blk_frozen BK489.out j_
   go_wp2
   go_meet
   case rel => exact ⟨_, (decide (a2_1 > 65535)), kS, H', ⟨by first | omega | exact Nat.le_refl _⟩, ⟨kb BK487.out⟩, ⟨kb BK488.out⟩, ⟨kb BK489.out⟩, ⟨kB3 HB.out GE487.out GE488.out GE489.out⟩⟩
  clear HC6
  try clear c5
  try clear hcz12_0
  try clear hcz14_0
  try clear hfz12_0
  try clear hfz14_0
  obtain ⟨kq, x30_5, rfl, HA, HJ5, BK487, BK488, BK489, HB⟩ := hcut
  cases kq with
  | zero => exact absurd HA.out (by simp [intrusionref13_Encode.j0])
  | succ kj5 =>
   have H := HA.out
   clear HA
   simp only [intrusionref13_Encode.j0] at H
   by_cases c31 : x30_5 = true
   ·subst c31
    have H1 : (some ((⟨#[]⟩ : ByteArray), 4)) = some (r1, r2) := by rw [if_pos rfl] at H; exact H
    clear H
    have H := H1
    clear H1
    simp only [Option.some.injEq, Prod.mk.injEq] at H
    obtain ⟨rfl, rfl⟩ := H
    go_wp2
    go_ret2
    exact ⟨kE, by exact kB3 HB.out GE487.out GE488.out GE489.out⟩
   replace c31 := Bool.eq_false_iff.mpr c31
   subst c31
   have H1 : (if (a2_2.size : Int) > 65507 then (some ((⟨#[]⟩ : ByteArray), 3)) else ((intrusionref01_Put.f kj5 a2_0 2).bind fun t491 => ((intrusionref01_Put.f kj5 a2_1 2).bind fun t492 => (if t491.size + t492.size ≤ 9223372036854775807 then ((intrusionref01_Put.f kj5 (wrap64 (8 + (a2_2.size : Int))) 2).bind fun t493 => (if (t491 ++ t492).size + t493.size ≤ 9223372036854775807 then (if ((t491 ++ t492) ++ t493).size + 2 ≤ 9223372036854775807 then (if (((t491 ++ t492) ++ t493) ++ (⟨#[0, 0]⟩ : ByteArray)).size + a2_2.size ≤ 9223372036854775807 then ((intrusionref13_Sum.f kj5 b0 b1 b2 d0 d1 d2 ((((t491 ++ t492) ++ t493) ++ (⟨#[0, 0]⟩ : ByteArray)) ++ a2_2)).bind fun t494 => ((intrusionref01_Put.f kj5 t494 2).bind fun t495 => (if ((t491 ++ t492) ++ t493).size + t495.size ≤ 9223372036854775807 then (if (((t491 ++ t492) ++ t493) ++ t495).size + a2_2.size ≤ 9223372036854775807 then (some ((((t491 ++ t492) ++ t493) ++ t495) ++ a2_2, 0)) else (none)) else (none)))) else (none)) else (none)) else (none))) else (none))))) = some (r1, r2) := by rw [if_neg (show ¬ (false = true) by decide)] at H; exact H
   clear H
   have H := H1
   clear H1
   by_cases c32 : (a2_2.size : Int) > 65507
   ·rw [if_pos c32] at H
    have c32b0 : decide (65507 < (a2_2.size : Int)) = true := decide_eq_true c32
    have c32b1 : decide (65507 < a2_2.size) = true := decide_eq_true (by omega)
    clear c32
    simp only [Option.some.injEq, Prod.mk.injEq] at H
    obtain ⟨rfl, rfl⟩ := H
    have hnb33 := NB489_487.out
    have hnc33 := NB487_489.out
    have hnb34 := NB489_488.out
    have hnc34 := NB488_489.out
    have hcz35_0 := cells_3 BK489.out
    have hfz35_0 := fun j_ => blk_frozen BK489.out j_
    go_wp2
    go_ret2
    exact ⟨kE, by exact kB3 HB.out GE487.out GE488.out GE489.out⟩
   rw [if_neg c32] at H
   have c32b0 : decide (65507 < (a2_2.size : Int)) = false := decide_eq_false c32
   have c32b1 : decide (65507 < a2_2.size) = false := decide_eq_false (by omega)
   clear c32
   replace H := Option.bind_eq_some_iff.mp H
   obtain ⟨t491, A360, H⟩ := H
   replace H : ((intrusionref01_Put.f kj5 a2_1 2).bind fun t492 => (if t491.size + t492.size ≤ 9223372036854775807 then ((intrusionref01_Put.f kj5 (wrap64 (8 + (a2_2.size : Int))) 2).bind fun t493 => (if (t491 ++ t492).size + t493.size ≤ 9223372036854775807 then (if ((t491 ++ t492) ++ t493).size + 2 ≤ 9223372036854775807 then (if (((t491 ++ t492) ++ t493) ++ (⟨#[0, 0]⟩ : ByteArray)).size + a2_2.size ≤ 9223372036854775807 then ((intrusionref13_Sum.f kj5 b0 b1 b2 d0 d1 d2 ((((t491 ++ t492) ++ t493) ++ (⟨#[0, 0]⟩ : ByteArray)) ++ a2_2)).bind fun t494 => ((intrusionref01_Put.f kj5 t494 2).bind fun t495 => (if ((t491 ++ t492) ++ t493).size + t495.size ≤ 9223372036854775807 then (if (((t491 ++ t492) ++ t493) ++ t495).size + a2_2.size ≤ 9223372036854775807 then (some ((((t491 ++ t492) ++ t493) ++ t495) ++ a2_2, 0)) else (none)) else (none)))) else (none)) else (none)) else (none))) else (none))) = some (r1, r2) := H
   have A36 := As A360
   clear A360
   replace H := Option.bind_eq_some_iff.mp H
   obtain ⟨t492, A370, H⟩ := H
   replace H : (if t491.size + t492.size ≤ 9223372036854775807 then ((intrusionref01_Put.f kj5 (wrap64 (8 + (a2_2.size : Int))) 2).bind fun t493 => (if (t491 ++ t492).size + t493.size ≤ 9223372036854775807 then (if ((t491 ++ t492) ++ t493).size + 2 ≤ 9223372036854775807 then (if (((t491 ++ t492) ++ t493) ++ (⟨#[0, 0]⟩ : ByteArray)).size + a2_2.size ≤ 9223372036854775807 then ((intrusionref13_Sum.f kj5 b0 b1 b2 d0 d1 d2 ((((t491 ++ t492) ++ t493) ++ (⟨#[0, 0]⟩ : ByteArray)) ++ a2_2)).bind fun t494 => ((intrusionref01_Put.f kj5 t494 2).bind fun t495 => (if ((t491 ++ t492) ++ t493).size + t495.size ≤ 9223372036854775807 then (if (((t491 ++ t492) ++ t493) ++ t495).size + a2_2.size ≤ 9223372036854775807 then (some ((((t491 ++ t492) ++ t493) ++ t495) ++ a2_2, 0)) else (none)) else (none)))) else (none)) else (none)) else (none))) else (none)) = some (r1, r2) := H
   have A37 := As A370
   clear A370
   by_cases c38 : t491.size + t492.size ≤ 9223372036854775807
   ·rw [if_pos c38] at H
    have c38b0 := eq_true c38
    have c38b1 : decide (t491.size + t492.size ≤ 9223372036854775807) = true := decide_eq_true c38
    try have c38b2 : (9223372036854775807 < t491.size + t492.size) = False := eq_false (Nat.not_lt.2 c38)
    replace H := Option.bind_eq_some_iff.mp H
    obtain ⟨t493, A390, H⟩ := H
    replace H : (if (t491 ++ t492).size + t493.size ≤ 9223372036854775807 then (if ((t491 ++ t492) ++ t493).size + 2 ≤ 9223372036854775807 then (if (((t491 ++ t492) ++ t493) ++ (⟨#[0, 0]⟩ : ByteArray)).size + a2_2.size ≤ 9223372036854775807 then ((intrusionref13_Sum.f kj5 b0 b1 b2 d0 d1 d2 ((((t491 ++ t492) ++ t493) ++ (⟨#[0, 0]⟩ : ByteArray)) ++ a2_2)).bind fun t494 => ((intrusionref01_Put.f kj5 t494 2).bind fun t495 => (if ((t491 ++ t492) ++ t493).size + t495.size ≤ 9223372036854775807 then (if (((t491 ++ t492) ++ t493) ++ t495).size + a2_2.size ≤ 9223372036854775807 then (some ((((t491 ++ t492) ++ t493) ++ t495) ++ a2_2, 0)) else (none)) else (none)))) else (none)) else (none)) else (none)) = some (r1, r2) := H
    have A39 := As A390
    clear A390
    by_cases c40 : (t491 ++ t492).size + t493.size ≤ 9223372036854775807
    ·rw [if_pos c40] at H
     have c40b0 := eq_true c40
     have c40b1 : decide ((t491 ++ t492).size + t493.size ≤ 9223372036854775807) = true := decide_eq_true c40
     (try (have c40s0 : (9223372036854775807 < (t491.size + t492.size) + t493.size) = False := by have h_ := c40; simp only [ByteArray.size_append, ByteArray.size_extract] at h_; exact eq_false (by first | omega | (omega))))
     (try (have c40s1 : (9223372036854775807 < t491.size + t492.size + t493.size) = False := by have h_ := c40; simp only [ByteArray.size_append, ByteArray.size_extract] at h_; exact eq_false (by first | omega | (omega))))
     (try (have c40s2 : ((t491.size + t492.size) + t493.size ≤ 9223372036854775807) = True := by have h_ := c40; simp only [ByteArray.size_append, Int.natCast_add, Int.toNat_natCast] at h_; first | exact eq_true h_ | exact eq_true (by omega)))
     (try (have c40s3 : decide ((t491.size + t492.size) + t493.size ≤ 9223372036854775807) = true := by have h_ := c40; first | (simp only [ByteArray.size_append, Int.toNat_natCast] at h_; first | exact beq_iff_eq.mpr h_ | exact beq_eq_false_iff_ne.mpr h_ | exact bne_iff_ne.mpr h_ | exact bne_eq_false_iff_eq.mpr h_ | (rw [beq_iff_eq.mpr h_]; rfl) | (rw [beq_eq_false_iff_ne.mpr h_]; rfl)) | (simp only [ByteArray.size_append, Int.natCast_add, Int.toNat_natCast] at h_ ⊢; first | exact h_ | simpa using h_ | simp [h_] | omega) | (simp only [ByteArray.size_append] at h_; simp at h_ ⊢; omega) | (simp only [ByteArray.size_append, Int.natCast_add, Int.toNat_natCast] at h_; simpa using h_)))
     try have c40b2 : (9223372036854775807 < (t491 ++ t492).size + t493.size) = False := eq_false (Nat.not_lt.2 c40)
     by_cases c41 : ((t491 ++ t492) ++ t493).size + 2 ≤ 9223372036854775807
     ·rw [if_pos c41] at H
      have c41b0 := eq_true c41
      have c41b1 : decide (((t491 ++ t492) ++ t493).size + 2 ≤ 9223372036854775807) = true := decide_eq_true c41
      (try (have c41s0 : (9223372036854775807 < t491.size + t492.size + t493.size + 2) = False := by have h_ := c41; simp only [ByteArray.size_append, ByteArray.size_extract] at h_; exact eq_false (by first | omega | (omega))))
      (try (have c41s1 : (9223372036854775807 < (t491.size + t492.size + t493.size) + 2) = False := by have h_ := c41; simp only [ByteArray.size_append, ByteArray.size_extract] at h_; exact eq_false (by first | omega | (omega))))
      (try (have c41s2 : ((t491.size + t492.size + t493.size) + 2 ≤ 9223372036854775807) = True := by have h_ := c41; simp only [ByteArray.size_append, Int.natCast_add, Int.toNat_natCast] at h_; first | exact eq_true h_ | exact eq_true (by omega)))
      (try (have c41s3 : decide ((t491.size + t492.size + t493.size) + 2 ≤ 9223372036854775807) = true := by have h_ := c41; first | (simp only [ByteArray.size_append, Int.toNat_natCast] at h_; first | exact beq_iff_eq.mpr h_ | exact beq_eq_false_iff_ne.mpr h_ | exact bne_iff_ne.mpr h_ | exact bne_eq_false_iff_eq.mpr h_ | (rw [beq_iff_eq.mpr h_]; rfl) | (rw [beq_eq_false_iff_ne.mpr h_]; rfl)) | (simp only [ByteArray.size_append, Int.natCast_add, Int.toNat_natCast] at h_ ⊢; first | exact h_ | simpa using h_ | simp [h_] | omega) | (simp only [ByteArray.size_append] at h_; simp at h_ ⊢; omega) | (simp only [ByteArray.size_append, Int.natCast_add, Int.toNat_natCast] at h_; simpa using h_)))
      try have c41b2 : (9223372036854775807 < ((t491 ++ t492) ++ t493).size + 2) = False := eq_false (Nat.not_lt.2 c41)
      by_cases c42 : (((t491 ++ t492) ++ t493) ++ (⟨#[0, 0]⟩ : ByteArray)).size + a2_2.size ≤ 9223372036854775807
      ·rw [if_pos c42] at H
       have c42b0 := eq_true c42
       have c42b1 : decide ((((t491 ++ t492) ++ t493) ++ (⟨#[0, 0]⟩ : ByteArray)).size + a2_2.size ≤ 9223372036854775807) = true := decide_eq_true c42
       (try (have c42s0 : (9223372036854775807 < (t491.size + t492.size + t493.size + 2) + a2_2.size) = False := by have h_ := c42; have z0_ : (⟨#[0, 0]⟩ : ByteArray).size = 2 := rfl; simp only [ByteArray.size_append, ByteArray.size_extract] at h_; exact eq_false (by first | omega | (omega))))
       (try (have c42s1 : (9223372036854775807 < t491.size + t492.size + t493.size + 2 + a2_2.size) = False := by have h_ := c42; have z0_ : (⟨#[0, 0]⟩ : ByteArray).size = 2 := rfl; simp only [ByteArray.size_append, ByteArray.size_extract] at h_; exact eq_false (by first | omega | (omega))))
       (try (have c42s2 : ((t491.size + t492.size + t493.size + 2) + a2_2.size ≤ 9223372036854775807) = True := by have h_ := c42; simp only [ByteArray.size_append, Int.natCast_add, Int.toNat_natCast] at h_; first | exact eq_true h_ | exact eq_true (by omega)))
       (try (have c42s3 : decide ((t491.size + t492.size + t493.size + 2) + a2_2.size ≤ 9223372036854775807) = true := by have h_ := c42; first | (simp only [ByteArray.size_append, Int.toNat_natCast] at h_; first | exact beq_iff_eq.mpr h_ | exact beq_eq_false_iff_ne.mpr h_ | exact bne_iff_ne.mpr h_ | exact bne_eq_false_iff_eq.mpr h_ | (rw [beq_iff_eq.mpr h_]; rfl) | (rw [beq_eq_false_iff_ne.mpr h_]; rfl)) | (simp only [ByteArray.size_append, Int.natCast_add, Int.toNat_natCast] at h_ ⊢; first | exact h_ | simpa using h_ | simp [h_] | omega) | (simp only [ByteArray.size_append] at h_; simp at h_ ⊢; omega) | (simp only [ByteArray.size_append, Int.natCast_add, Int.toNat_natCast] at h_; simpa using h_)))
       try have c42b2 : (9223372036854775807 < (((t491 ++ t492) ++ t493) ++ (⟨#[0, 0]⟩ : ByteArray)).size + a2_2.size) = False := eq_false (Nat.not_lt.2 c42)
       replace H := Option.bind_eq_some_iff.mp H
       obtain ⟨t494, A430, H⟩ := H
       replace H : ((intrusionref01_Put.f kj5 t494 2).bind fun t495 => (if ((t491 ++ t492) ++ t493).size + t495.size ≤ 9223372036854775807 then (if (((t491 ++ t492) ++ t493) ++ t495).size + a2_2.size ≤ 9223372036854775807 then (some ((((t491 ++ t492) ++ t493) ++ t495) ++ a2_2, 0)) else (none)) else (none))) = some (r1, r2) := H
       have A43 := As A430
       clear A430
       replace H := Option.bind_eq_some_iff.mp H
       obtain ⟨t495, A440, H⟩ := H
       replace H : (if ((t491 ++ t492) ++ t493).size + t495.size ≤ 9223372036854775807 then (if (((t491 ++ t492) ++ t493) ++ t495).size + a2_2.size ≤ 9223372036854775807 then (some ((((t491 ++ t492) ++ t493) ++ t495) ++ a2_2, 0)) else (none)) else (none)) = some (r1, r2) := H
       have A44 := As A440
       clear A440
       by_cases c45 : ((t491 ++ t492) ++ t493).size + t495.size ≤ 9223372036854775807
       ·rw [if_pos c45] at H
        have c45b0 := eq_true c45
        have c45b1 : decide (((t491 ++ t492) ++ t493).size + t495.size ≤ 9223372036854775807) = true := decide_eq_true c45
        (try (have c45s0 : (9223372036854775807 < (t491.size + t492.size + t493.size) + t495.size) = False := by have h_ := c45; simp only [ByteArray.size_append, ByteArray.size_extract] at h_; exact eq_false (by first | omega | (omega))))
        (try (have c45s1 : (9223372036854775807 < t491.size + t492.size + t493.size + t495.size) = False := by have h_ := c45; simp only [ByteArray.size_append, ByteArray.size_extract] at h_; exact eq_false (by first | omega | (omega))))
        (try (have c45s2 : ((t491.size + t492.size + t493.size) + t495.size ≤ 9223372036854775807) = True := by have h_ := c45; simp only [ByteArray.size_append, Int.natCast_add, Int.toNat_natCast] at h_; first | exact eq_true h_ | exact eq_true (by omega)))
        (try (have c45s3 : decide ((t491.size + t492.size + t493.size) + t495.size ≤ 9223372036854775807) = true := by have h_ := c45; first | (simp only [ByteArray.size_append, Int.toNat_natCast] at h_; first | exact beq_iff_eq.mpr h_ | exact beq_eq_false_iff_ne.mpr h_ | exact bne_iff_ne.mpr h_ | exact bne_eq_false_iff_eq.mpr h_ | (rw [beq_iff_eq.mpr h_]; rfl) | (rw [beq_eq_false_iff_ne.mpr h_]; rfl)) | (simp only [ByteArray.size_append, Int.natCast_add, Int.toNat_natCast] at h_ ⊢; first | exact h_ | simpa using h_ | simp [h_] | omega) | (simp only [ByteArray.size_append] at h_; simp at h_ ⊢; omega) | (simp only [ByteArray.size_append, Int.natCast_add, Int.toNat_natCast] at h_; simpa using h_)))
        try have c45b2 : (9223372036854775807 < ((t491 ++ t492) ++ t493).size + t495.size) = False := eq_false (Nat.not_lt.2 c45)
        by_cases c46 : (((t491 ++ t492) ++ t493) ++ t495).size + a2_2.size ≤ 9223372036854775807
        ·rw [if_pos c46] at H
         have c46b0 := eq_true c46
         have c46b1 : decide ((((t491 ++ t492) ++ t493) ++ t495).size + a2_2.size ≤ 9223372036854775807) = true := decide_eq_true c46
         (try (have c46s0 : (9223372036854775807 < (t491.size + t492.size + t493.size + t495.size) + a2_2.size) = False := by have h_ := c46; simp only [ByteArray.size_append, ByteArray.size_extract] at h_; exact eq_false (by first | omega | (omega))))
         (try (have c46s1 : (9223372036854775807 < t491.size + t492.size + t493.size + t495.size + a2_2.size) = False := by have h_ := c46; simp only [ByteArray.size_append, ByteArray.size_extract] at h_; exact eq_false (by first | omega | (omega))))
         (try (have c46s2 : ((t491.size + t492.size + t493.size + t495.size) + a2_2.size ≤ 9223372036854775807) = True := by have h_ := c46; simp only [ByteArray.size_append, Int.natCast_add, Int.toNat_natCast] at h_; first | exact eq_true h_ | exact eq_true (by omega)))
         (try (have c46s3 : decide ((t491.size + t492.size + t493.size + t495.size) + a2_2.size ≤ 9223372036854775807) = true := by have h_ := c46; first | (simp only [ByteArray.size_append, Int.toNat_natCast] at h_; first | exact beq_iff_eq.mpr h_ | exact beq_eq_false_iff_ne.mpr h_ | exact bne_iff_ne.mpr h_ | exact bne_eq_false_iff_eq.mpr h_ | (rw [beq_iff_eq.mpr h_]; rfl) | (rw [beq_eq_false_iff_ne.mpr h_]; rfl)) | (simp only [ByteArray.size_append, Int.natCast_add, Int.toNat_natCast] at h_ ⊢; first | exact h_ | simpa using h_ | simp [h_] | omega) | (simp only [ByteArray.size_append] at h_; simp at h_ ⊢; omega) | (simp only [ByteArray.size_append, Int.natCast_add, Int.toNat_natCast] at h_; simpa using h_)))
         try have c46b2 : (9223372036854775807 < (((t491 ++ t492) ++ t493) ++ t495).size + a2_2.size) = False := eq_false (Nat.not_lt.2 c46)
         simp only [Option.some.injEq, Prod.mk.injEq] at H
         obtain ⟨rfl, rfl⟩ := H
         have hnb47 := NB489_487.out
         have hnc47 := NB487_489.out
         have hnb48 := NB489_488.out
         have hnc48 := NB488_489.out
         have hcz49_0 := cells_3 BK489.out
         have hfz49_0 := fun j_ => blk_frozen BK489.out j_
         try go_wp2
         replace BK487 := As (blk_drew BK487.out)
         replace BK488 := As (blk_drew BK488.out)
         replace BK489 := As (blk_drew BK489.out)
         replace HB := As (below_drew1 HB.out)
         refine start_ (n := 14) (S := fun w' => w'.cell? ⟨gb489, 0, none⟩ = some (.int .i64 a2_0) ∧ w'.cell? ⟨gb489, 1, none⟩ = some (.int .i64 a2_1) ∧ w'.cell? ⟨gb489, 2, none⟩ = some (.string a2_2)) (ds := []) #[O, O, O, O, O, O, O, O, O, O, O, O, O, O] (by kernel_rfl) rfl rfl ⟨kC BK489.out 0, kC BK489.out 1, kC BK489.out 2⟩ (fun hHeld => ?_); refine with_tabW intrusionref13_Encode.tab7 intrusionref13_Encode.bits7 (fun HT_ HW_ => ?_)
         generalize wc.drew = w50 at BK487 BK488 BK489 HB hHeld ⊢
         refine kP 0 35 #[I, O, O, O, O, O, O, O, O, O, O, O, O, O] ?_ (any_of HT_.out (by kernel_rfl))
         refine kP 3 38 #[I, O, O, I, O, O, O, O, O, O, O, O, O, O] ?_ (any_of HT_.out (by kernel_rfl))
         refine kP 7 42 #[I, O, O, I, O, O, O, I, O, O, O, O, O, O] ?_ (any_of HT_.out (by kernel_rfl))
         refine take_ (i := 1) (N := some 36) (v := ?_) (a' := ?_) #[I, I, O, I, O, O, O, I, O, O, O, O, O, O] rfl rfl (take_ofW HT_.out HW_.out (by kernel_rfl)) (fun _ _ _ h => h) (Or.inl ⟨by rfl, ?_⟩) hHeld ?_ ?_
         rotate_left
         ·rintro w' ⟨s0, s1, s2⟩
          go_simp
          with_reducible rfl
         rotate_left
         ·simp only [Act.put, sA, sZ, sS, i64_w, i32_w]
          rfl
         refine take_ (i := 4) (N := some 39) (v := ?_) (a' := ?_) #[I, I, O, I, I, O, O, I, O, O, O, O, O, O] rfl rfl (take_ofW HT_.out HW_.out (by kernel_rfl)) (fun _ _ _ h => h) (Or.inl ⟨by rfl, ?_⟩) hHeld ?_ ?_
         rotate_left
         ·rintro w' ⟨s0, s1, s2⟩
          go_simp
          with_reducible rfl
         rotate_left
         ·simp only [Act.put, sA, sZ, sS, i64_w, i32_w]
          rfl
         refine take_ (i := 8) (N := some 43) (v := ?_) (a' := ?_) #[I, I, O, I, I, O, O, I, I, O, O, O, O, O] rfl rfl (take_ofW HT_.out HW_.out (by kernel_rfl)) (fun _ _ _ h => h) (Or.inl ⟨by rfl, ?_⟩) hHeld ?_ ?_
         rotate_left
         ·rintro w' ⟨s0, s1, s2⟩
          go_simp
          with_reducible rfl
         rotate_left
         ·simp only [Act.put, sA, sZ, sS, i64_w, i32_w]
          rfl
         refine kP 9 44 #[I, I, O, I, I, O, O, I, I, I, O, O, O, O] ?_ (any_of HT_.out (by kernel_rfl))
         refine kP 10 45 #[I, I, O, I, I, O, O, I, I, I, I, O, O, O] ?_ (any_of HT_.out (by kernel_rfl))
         refine one_ (i := 2) (N := some 37) #[I, I, I, I, I, O, O, I, I, I, I, O, O, O] rfl rfl (one_of HT_.out (by kernel_rfl)) (by decide) (fun K hK => ?_)
         refine goes_ Tryd.func31 (by kernel_rfl) rfl #[.int .i64 a2_0, .int .i64 2] (by rfl) rfl rfl kA ?_
         with_reducible refine (intrusionref01_Put.calls kj5 a2_0 2 t491 _ A36.out).mono ?_
         rintro e w51 ⟨rfl, hb⟩
         refine ⟨_, rfl, ?_⟩
         replace BK487 := As (blk_below (kb BK487.out) hb)
         replace BK488 := As (blk_below (kb BK488.out) hb)
         replace BK489 := As (blk_below (kb BK489.out) hb)
         replace HB := As (below_step (kB3 HB.out GE487.out GE488.out GE489.out) hb)
         (try clear hb)
         (try clear hb2)
         (try clear hk)
         (try clear hi)
         refine hK.out _ _ ⟨kC BK489.out 0, kC BK489.out 1, kC BK489.out 2⟩ (fun hHeld => ?_)
         clear hK K
         refine norm_ (a' := ?_) ?_ ?_
         rotate_left
         ·show Act.put _ (some 37) _ = _
          simp only [Act.put, sA, sZ, sS, i64_w, i32_w]
          rfl
         refine one_ (i := 5) (N := some 40) #[I, I, I, I, I, I, O, I, I, I, I, O, O, O] rfl rfl (one_of HT_.out (by kernel_rfl)) (by decide) (fun K hK => ?_)
         refine goes_ Tryd.func31 (by kernel_rfl) rfl #[.int .i64 a2_1, .int .i64 2] (by rfl) rfl rfl kA ?_
         with_reducible refine (intrusionref01_Put.calls kj5 a2_1 2 t492 _ A37.out).mono ?_
         rintro e w52 ⟨rfl, hb⟩
         refine ⟨_, rfl, ?_⟩
         replace BK487 := As (blk_below (kb BK487.out) hb)
         replace BK488 := As (blk_below (kb BK488.out) hb)
         replace BK489 := As (blk_below (kb BK489.out) hb)
         replace HB := As (below_step (kB3 HB.out GE487.out GE488.out GE489.out) hb)
         (try clear hb)
         (try clear hb2)
         (try clear hk)
         (try clear hi)
         refine hK.out _ _ ⟨kC BK489.out 0, kC BK489.out 1, kC BK489.out 2⟩ (fun hHeld => ?_)
         clear hK K
         refine norm_ (a' := ?_) ?_ ?_
         rotate_left
         ·show Act.put _ (some 40) _ = _
          simp only [Act.put, sA, sZ, sS, i64_w, i32_w]
          rfl
         refine kP 6 41 #[I, I, I, I, I, I, I, I, I, I, I, O, O, O] ?_ (any_of HT_.out (by kernel_rfl))
         refine one_ (i := 11) (N := some 46) #[I, I, I, I, I, I, I, I, I, I, I, I, O, O] rfl rfl (one_of HT_.out (by kernel_rfl)) (by decide) (fun K hK => ?_)
         refine goes_ Tryd.func31 (by kernel_rfl) rfl #[.int .i64 (wrap64 (8 + (a2_2.size : Int))), .int .i64 2] (by rfl) rfl rfl kA ?_
         with_reducible refine (intrusionref01_Put.calls kj5 (wrap64 (8 + (a2_2.size : Int))) 2 t493 _ A39.out).mono ?_
         rintro e w53 ⟨rfl, hb⟩
         refine ⟨_, rfl, ?_⟩
         replace BK487 := As (blk_below (kb BK487.out) hb)
         replace BK488 := As (blk_below (kb BK488.out) hb)
         replace BK489 := As (blk_below (kb BK489.out) hb)
         replace HB := As (below_step (kB3 HB.out GE487.out GE488.out GE489.out) hb)
         (try clear hb)
         (try clear hb2)
         (try clear hk)
         (try clear hi)
         refine hK.out _ _ ⟨kC BK489.out 0, kC BK489.out 1, kC BK489.out 2⟩ (fun hHeld => ?_)
         clear hK K
         refine norm_ (a' := ?_) ?_ ?_
         rotate_left
         ·show Act.put _ (some 46) _ = _
          simp only [Act.put, sA, sZ, sS, i64_w, i32_w]
          rfl
         refine kP 12 47 #[I, I, I, I, I, I, I, I, I, I, I, I, I, O] ?_ (any_of HT_.out (by kernel_rfl))
         refine kP 13 8 #[I, I, I, I, I, I, I, I, I, I, I, I, I, I] ?_ (any_of HT_.out (by kernel_rfl))
         refine done_ (done_of HT_.out (by kernel_rfl)) ?_
         try go_wp2
         replace BK487 := As (blk_drew BK487.out)
         replace BK488 := As (blk_drew BK488.out)
         replace BK489 := As (blk_drew BK489.out)
         replace HB := As (below_drew1 HB.out)
         refine start_ (n := 16) (S := fun w' => w'.cell? ⟨gb487, 0, none⟩ = some (.bool b0) ∧ w'.cell? ⟨gb487, 1, none⟩ = some (.int .u64 b1) ∧ w'.cell? ⟨gb487, 2, none⟩ = some (.int .u64 b2) ∧ w'.cell? ⟨gb488, 0, none⟩ = some (.bool d0) ∧ w'.cell? ⟨gb488, 1, none⟩ = some (.int .u64 d1) ∧ w'.cell? ⟨gb488, 2, none⟩ = some (.int .u64 d2) ∧ w'.cell? ⟨gb489, 0, none⟩ = some (.int .i64 a2_0) ∧ w'.cell? ⟨gb489, 1, none⟩ = some (.int .i64 a2_1) ∧ w'.cell? ⟨gb489, 2, none⟩ = some (.string a2_2)) (ds := []) #[O, O, O, O, O, O, O, O, O, O, O, O, O, O, O, O] (by kernel_rfl) rfl rfl ⟨kC BK487.out 0, kC BK487.out 1, kC BK487.out 2, kC BK488.out 0, kC BK488.out 1, kC BK488.out 2, kC BK489.out 0, kC BK489.out 1, kC BK489.out 2⟩ (fun hHeld => ?_); refine with_tabW intrusionref13_Encode.tab8 intrusionref13_Encode.bits8 (fun HT_ HW_ => ?_)
         generalize w53.drew = w54 at BK487 BK488 BK489 HB hHeld ⊢
         refine kP 0 48 #[I, O, O, O, O, O, O, O, O, O, O, O, O, O, O, O] ?_ (any_of HT_.out (by kernel_rfl))
         refine kP 3 51 #[I, O, O, I, O, O, O, O, O, O, O, O, O, O, O, O] ?_ (any_of HT_.out (by kernel_rfl))
         refine kP 4 52 #[I, O, O, I, I, O, O, O, O, O, O, O, O, O, O, O] ?_ (any_of HT_.out (by kernel_rfl))
         refine kP 5 53 #[I, O, O, I, I, I, O, O, O, O, O, O, O, O, O, O] ?_ (any_of HT_.out (by kernel_rfl))
         refine kP 11 59 #[I, O, O, I, I, I, O, O, O, O, O, I, O, O, O, O] ?_ (any_of HT_.out (by kernel_rfl))
         refine take_ (i := 1) (N := some 49) (v := ?_) (a' := ?_) #[I, I, O, I, I, I, O, O, O, O, O, I, O, O, O, O] rfl rfl (take_ofW HT_.out HW_.out (by kernel_rfl)) (fun _ _ _ h => h) (Or.inl ⟨by rfl, ?_⟩) hHeld ?_ ?_
         rotate_left
         ·rintro w' ⟨s0, s1, s2, s3, s4, s5, s6, s7, s8⟩
          go_simp
          with_reducible rfl
         rotate_left
         ·simp only [Act.put, sA, sZ, sS, i64_w, i32_w]
          rfl
         refine take_ (i := 2) (N := some 50) (v := ?_) (a' := ?_) #[I, I, I, I, I, I, O, O, O, O, O, I, O, O, O, O] rfl rfl (take_ofW HT_.out HW_.out (by kernel_rfl)) (fun _ _ _ h => h) (Or.inl ⟨by rfl, ?_⟩) hHeld ?_ ?_
         rotate_left
         ·rintro w' ⟨s0, s1, s2, s3, s4, s5, s6, s7, s8⟩
          go_simp
          with_reducible rfl
         rotate_left
         ·simp only [Act.put, sA, sZ, sS, i64_w, i32_w]
          rfl
         refine take_ (i := 6) (N := some 54) (v := ?_) (a' := ?_) #[I, I, I, I, I, I, I, O, O, O, O, I, O, O, O, O] rfl rfl (take_ofW HT_.out HW_.out (by kernel_rfl)) (fun _ _ _ h => h) (Or.inl ⟨by rfl, ?_⟩) hHeld ?_ ?_
         rotate_left
         ·rintro w' ⟨s0, s1, s2, s3, s4, s5, s6, s7, s8⟩
          go_simp
          with_reducible rfl
         rotate_left
         ·simp only [Act.put, sA, sZ, sS, i64_w, i32_w]
          rfl
         refine kP 7 55 #[I, I, I, I, I, I, I, I, O, O, O, I, O, O, O, O] ?_ (any_of HT_.out (by kernel_rfl))
         refine take_ (i := 12) (N := some 60) (v := ?_) (a' := ?_) #[I, I, I, I, I, I, I, I, O, O, O, I, I, O, O, O] rfl rfl (take_ofW HT_.out HW_.out (by kernel_rfl)) (fun _ _ _ h => h) (Or.inl ⟨by rfl, ?_⟩) hHeld ?_ ?_
         rotate_left
         ·rintro w' ⟨s0, s1, s2, s3, s4, s5, s6, s7, s8⟩
          go_simp
          with_reducible rfl
         rotate_left
         ·simp only [Act.put, sA, sZ, sS, i64_w, i32_w]
          rfl
         refine one_ (i := 8) (N := some 56) #[I, I, I, I, I, I, I, I, I, O, O, I, I, O, O, O] rfl rfl (one_of HT_.out (by kernel_rfl)) (by decide) (fun K hK => ?_)
         refine goes_ Tryd.func94 (by kernel_rfl) rfl #[.agg #[.bool b0, .int .u64 b1, .int .u64 b2], .agg #[.bool d0, .int .u64 d1, .int .u64 d2], .string ((((t491 ++ t492) ++ t493) ++ (⟨#[0, 0]⟩ : ByteArray)) ++ a2_2)] (by rfl) rfl rfl kA ?_
         with_reducible refine (intrusionref13_Sum.calls kj5 b0 b1 b2 d0 d1 d2 ((((t491 ++ t492) ++ t493) ++ (⟨#[0, 0]⟩ : ByteArray)) ++ a2_2) t494 _ A43.out).mono ?_
         rintro e w55 ⟨rfl, hb⟩
         refine ⟨_, rfl, ?_⟩
         replace BK487 := As (blk_below (kb BK487.out) hb)
         replace BK488 := As (blk_below (kb BK488.out) hb)
         replace BK489 := As (blk_below (kb BK489.out) hb)
         replace HB := As (below_step (kB3 HB.out GE487.out GE488.out GE489.out) hb)
         (try clear hb)
         (try clear hb2)
         (try clear hk)
         (try clear hi)
         refine hK.out _ _ ⟨kC BK487.out 0, kC BK487.out 1, kC BK487.out 2, kC BK488.out 0, kC BK488.out 1, kC BK488.out 2, kC BK489.out 0, kC BK489.out 1, kC BK489.out 2⟩ (fun hHeld => ?_)
         clear hK K
         refine norm_ (a' := ?_) ?_ ?_
         rotate_left
         ·show Act.put _ (some 56) _ = _
          simp only [Act.put, sA, sZ, sS, i64_w, i32_w]
          rfl
         refine one_ (i := 9) (N := some 57) #[I, I, I, I, I, I, I, I, I, I, O, I, I, O, O, O] rfl rfl (one_of HT_.out (by kernel_rfl)) (by decide) (fun K hK => ?_)
         refine goes_ Tryd.func31 (by kernel_rfl) rfl #[.int .i64 t494, .int .i64 2] (by rfl) rfl rfl kA ?_
         with_reducible refine (intrusionref01_Put.calls kj5 t494 2 t495 _ A44.out).mono ?_
         rintro e w56 ⟨rfl, hb⟩
         refine ⟨_, rfl, ?_⟩
         replace BK487 := As (blk_below (kb BK487.out) hb)
         replace BK488 := As (blk_below (kb BK488.out) hb)
         replace BK489 := As (blk_below (kb BK489.out) hb)
         replace HB := As (below_step (kB3 HB.out GE487.out GE488.out GE489.out) hb)
         (try clear hb)
         (try clear hb2)
         (try clear hk)
         (try clear hi)
         refine hK.out _ _ ⟨kC BK487.out 0, kC BK487.out 1, kC BK487.out 2, kC BK488.out 0, kC BK488.out 1, kC BK488.out 2, kC BK489.out 0, kC BK489.out 1, kC BK489.out 2⟩ (fun hHeld => ?_)
         clear hK K
         refine norm_ (a' := ?_) ?_ ?_
         rotate_left
         ·show Act.put _ (some 57) _ = _
          simp only [Act.put, sA, sZ, sS, i64_w, i32_w]
          rfl
         refine kP 10 58 #[I, I, I, I, I, I, I, I, I, I, I, I, I, O, O, O] ?_ (any_of HT_.out (by kernel_rfl))
         refine kP 13 61 #[I, I, I, I, I, I, I, I, I, I, I, I, I, I, O, O] ?_ (any_of HT_.out (by kernel_rfl))
         refine kP 14 6 #[I, I, I, I, I, I, I, I, I, I, I, I, I, I, I, O] ?_ (any_of HT_.out (by kernel_rfl))
         refine kP 15 7 #[I, I, I, I, I, I, I, I, I, I, I, I, I, I, I, I] ?_ (any_of HT_.out (by kernel_rfl))
         refine done_ (done_of HT_.out (by kernel_rfl)) ?_
         try go_wp2
         go_ret2
         exact ⟨kE, by exact kB3 HB.out GE487.out GE488.out GE489.out⟩
        rw [if_neg c46] at H
        exact absurd H (by simp)
       rw [if_neg c45] at H
       exact absurd H (by simp)
      rw [if_neg c42] at H
      exact absurd H (by simp)
     rw [if_neg c41] at H
     exact absurd H (by simp)
    rw [if_neg c40] at H
    exact absurd H (by simp)
   rw [if_neg c38] at H
   exact absurd H (by simp)
 replace c5 := Bool.eq_false_iff.mpr c5
 subst c5
 have H1 : (some ((⟨#[]⟩ : ByteArray), 13)) = some (r1, r2) := by rw [if_neg (show ¬ (false = true) by decide)] at H; exact H
 clear H
 have H := H1
 clear H1
 simp only [Option.some.injEq, Prod.mk.injEq] at H
 obtain ⟨rfl, rfl⟩ := H
 go_enter Tryd.func52, Tryd.ntmps52
 go_wp2_with (first | ((with_reducible refine gate_dst (N := 3) rfl ?_); refine box_event rfl (N := 3) rfl (cs := #[.bool b0, .int .u64 b1, .int .u64 b2]) (t := 24) kG ?_; intro gb487 hg w57 hbox hb; have BK487 := As (hbox); have GW487 := As ((by rw [hg]; exact (below_size (kB HB.out)) : w.heap.size ≤ gb487)); have GE487 := As ((by rw [hg]; exact (below_size (kB HB.out)) : w.heap.size ≤ gb487)); replace HB := As (below_step (kB HB.out) hb); clear hb hbox hg) | ((with_reducible refine gate_dst (N := 4) rfl ?_); refine box_event rfl (N := 4) rfl (cs := #[.bool d0, .int .u64 d1, .int .u64 d2]) (t := 24) kG ?_; intro gb488 hg w58 hbox hb; have BK488 := As (hbox); have GW488 := As ((by rw [hg]; exact (below_size (kB1 HB.out GE487.out)) : w.heap.size ≤ gb488)); have GE488 := As ((by rw [hg]; exact (below_size (kB1 HB.out GE487.out)) : w.heap.size ≤ gb488)); replace HB := As (below_step (kB1 HB.out GE487.out) hb); have NB487_488 := As ((by rw [hg]; exact Nat.ne_of_lt (blk_lt (kb BK487.out)) : gb487 ≠ gb488)); have NB488_487 := As ((by rw [hg]; exact Nat.ne_of_gt (blk_lt (kb BK487.out)) : gb488 ≠ gb487)); replace BK487 := As (blk_below (kb BK487.out) hb); clear hb hbox hg) | ((with_reducible refine gate_dst (N := 5) rfl ?_); refine box_event rfl (N := 5) rfl (cs := #[.int .i64 a2_0, .int .i64 a2_1, .string a2_2]) (t := 85) kG ?_; intro gb489 hg w59 hbox hb; have BK489 := As (hbox); have GW489 := As ((by rw [hg]; exact (below_size (kB2 HB.out GE487.out GE488.out)) : w.heap.size ≤ gb489)); have GE489 := As ((by rw [hg]; exact (below_size (kB2 HB.out GE487.out GE488.out)) : w.heap.size ≤ gb489)); replace HB := As (below_step (kB2 HB.out GE487.out GE488.out) hb); have NB487_489 := As ((by rw [hg]; exact Nat.ne_of_lt (blk_lt (kb BK487.out)) : gb487 ≠ gb489)); have NB489_487 := As ((by rw [hg]; exact Nat.ne_of_gt (blk_lt (kb BK487.out)) : gb489 ≠ gb487)); replace BK487 := As (blk_below (kb BK487.out) hb); have NB488_489 := As ((by rw [hg]; exact Nat.ne_of_lt (blk_lt (kb BK488.out)) : gb488 ≠ gb489)); have NB489_488 := As ((by rw [hg]; exact Nat.ne_of_gt (blk_lt (kb BK488.out)) : gb489 ≠ gb488)); replace BK488 := As (blk_below (kb BK488.out) hb); clear hb hbox hg; have hnb60 := NB487_488.out; have hnc60 := NB488_487.out; have hnb61 := NB487_489.out; have hnc61 := NB489_487.out; have hcz62_0 := cells_3 BK487.out; have hfz62_0 := fun j_ => blk_frozen BK487.out j_; have hnb63 := NB488_489.out; have hnc63 := NB489_488.out; have hcz64_0 := cells_3 BK488.out; have hfz64_0 := fun j_ => blk_frozen BK488.out j_) | ((with_reducible refine gate_callee (f := 93) rfl ?_); refine goesL_ (some 11) rfl rfl Tryd.func93 (by kernel_rfl) rfl #[.agg #[.bool b0, .int .u64 b1, .int .u64 b2], .agg #[.bool d0, .int .u64 d1, .int .u64 d2]] rfl kA ?_; (with_reducible refine (intrusionref13_Fit.calls b0 b1 b2 d0 d1 d2 false _ A4.out).mono ?_); rintro e w65 ⟨rfl, hb⟩; refine ⟨_, rfl, ?_⟩; replace BK487 := As (blk_below (kb BK487.out) hb); replace BK488 := As (blk_below (kb BK488.out) hb); replace BK489 := As (blk_below (kb BK489.out) hb); replace HB := As (below_step (kB3 HB.out GE487.out GE488.out GE489.out) hb); (try clear hb)))
 go_ret2
 exact ⟨kE, by exact kB3 HB.out GE487.out GE488.out GE489.out⟩

end Go.Proofs.YtocobalkikkhlaaDoor.X
-- short
