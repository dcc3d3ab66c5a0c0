/- Functions and their walks, printed by xprint.py. -/
import Derived.Test.YtocobalkikkhlaaDoorX0
import Derived.Test.YtocobalkikkhlaaDoorX7
import Derived.Test.YtocobalkikkhlaaDoorX8
namespace Go.Proofs.YtocobalkikkhlaaDoor.X
open Go.RowKit Go.Proofs.YtocobalkikkhlaaDoorW.PrintWords Go.Proofs.YtocobalkikkhlaaDoorW.PrintLast Go.Proofs.YtocobalkikkhlaaDoorW.PrintMore
attribute [local go_sem] max2_int min2_int max_two min_two max_three min_three max_four min_four   -- for this text's walks alone
set_option linter.unusedVariables false
set_option linter.unusedSimpArgs false

/-! ### intrusionref17_WrapGre: function 13 -/
def intrusionref17_WrapGre.j0 : Nat → Int → ByteArray → Int → Bool → Bool → Bool → Int → Int → Bool → Int → Int → Option (Bool × Int × Int × Bool × Int × Int × Int × Int × ByteArray × Int)
 | 0, _, _, _, _, _, _, _, _, _, _, _ => none
 | k + 1, x2, x3, x4, x5, x27, x262000, x262001, x262002, x263000, x263001, x263002 => if x27 = true then (some (false, 0, 0, false, 0, 0, 0, 0, (⟨#[]⟩ : ByteArray), 4)) else (if (x3.size : Int) > 65000 then (some (false, 0, 0, false, 0, 0, 0, 0, (⟨#[]⟩ : ByteArray), 3)) else ((intrusionref01_Put.f k (wrap64 (x4)) 4).bind fun t265 => (if t265.size + x3.size ≤ 9223372036854775807 then (if x5 = true then ((intrusionref17_typeOf.f x2).bind fun t278 => ((intrusionref01_Put.f k t278 2).bind fun t279 => (if 2 + t279.size ≤ 9223372036854775807 then (if ((⟨#[160, 0]⟩ : ByteArray) ++ t279).size + 4 ≤ 9223372036854775807 then (if (((⟨#[160, 0]⟩ : ByteArray) ++ t279) ++ (⟨#[0, 0, 0, 0]⟩ : ByteArray)).size + (t265 ++ x3).size ≤ 9223372036854775807 then ((intrusionref02_Sum.f k ((((⟨#[160, 0]⟩ : ByteArray) ++ t279) ++ (⟨#[0, 0, 0, 0]⟩ : ByteArray)) ++ (t265 ++ x3))).bind fun t280 => ((intrusionref01_Put.f k t280 2).bind fun t281 => (if ((⟨#[160, 0]⟩ : ByteArray) ++ t279).size + t281.size ≤ 9223372036854775807 then (if (((⟨#[160, 0]⟩ : ByteArray) ++ t279) ++ t281).size + 2 ≤ 9223372036854775807 then (if ((((⟨#[160, 0]⟩ : ByteArray) ++ t279) ++ t281) ++ (⟨#[0, 0]⟩ : ByteArray)).size + (t265 ++ x3).size ≤ 9223372036854775807 then ((intrusionref17_made.f x262000 x262001 x262002 x263000 x263001 x263002 47 (((((⟨#[160, 0]⟩ : ByteArray) ++ t279) ++ t281) ++ (⟨#[0, 0]⟩ : ByteArray)) ++ (t265 ++ x3))).bind fun bt282 => (some (bt282.1, bt282.2.1, bt282.2.2.1, bt282.2.2.2.1, bt282.2.2.2.2.1, bt282.2.2.2.2.2.1, bt282.2.2.2.2.2.2.1, bt282.2.2.2.2.2.2.2.1, bt282.2.2.2.2.2.2.2.2.1, bt282.2.2.2.2.2.2.2.2.2))) else (none)) else (none)) else (none)))) else (none)) else (none)) else (none)))) else ((intrusionref17_typeOf.f x2).bind fun t266 => ((intrusionref01_Put.f k t266 2).bind fun t267 => (if 2 + t267.size ≤ 9223372036854775807 then (if ((⟨#[32, 0]⟩ : ByteArray) ++ t267).size + (t265 ++ x3).size ≤ 9223372036854775807 then ((intrusionref17_made.f x262000 x262001 x262002 x263000 x263001 x263002 47 (((⟨#[32, 0]⟩ : ByteArray) ++ t267) ++ (t265 ++ x3))).bind fun bt268 => (some (bt268.1, bt268.2.1, bt268.2.2.1, bt268.2.2.2.1, bt268.2.2.2.2.1, bt268.2.2.2.2.2.1, bt268.2.2.2.2.2.2.1, bt268.2.2.2.2.2.2.2.1, bt268.2.2.2.2.2.2.2.2.1, bt268.2.2.2.2.2.2.2.2.2))) else (none)) else (none))))) else (none))))
def intrusionref17_WrapGre.f (k : Nat) (b0 : Bool) (b1 : Int) (b2 : Int) (d0 : Bool) (d1 : Int) (d2 : Int) (a2 : Int) (a3 : ByteArray) (a4 : Int) (a5 : Bool) : Option (Bool × Int × Int × Bool × Int × Int × Int × Int × ByteArray × Int) := (intrusionref17_family.f b0 b1 b2 d0 d1 d2).bind fun t264 => (if t264 = true then (if a2 < 1 then (intrusionref17_WrapGre.j0 k a2 a3 a4 a5 true b0 b1 b2 d0 d1 d2) else (intrusionref17_WrapGre.j0 k a2 a3 a4 a5 (decide (a2 > 3)) b0 b1 b2 d0 d1 d2)) else (some (false, 0, 0, false, 0, 0, 0, 0, (⟨#[]⟩ : ByteArray), 13)))
theorem intrusionref17_WrapGre.mono_l : ∀ k, (∀ y0 y1 y2 y3 y4 y5 y6 y7 y8 y9 y10, LeO (intrusionref17_WrapGre.j0 k y0 y1 y2 y3 y4 y5 y6 y7 y8 y9 y10) (intrusionref17_WrapGre.j0 (k + 1) y0 y1 y2 y3 y4 y5 y6 y7 y8 y9 y10))
 | 0 => fun _ _ _ _ _ _ _ _ _ _ _ r h => by simp [intrusionref17_WrapGre.j0] at h
 | k + 1 => by
  have ih0 := intrusionref17_WrapGre.mono_l k
  intro y0 y1 y2 y3 y4 y5 y6 y7 y8 y9 y10
  unfold intrusionref17_WrapGre.j0
  repeat' first | with_reducible first | apply ih0 | apply intrusionref01_Put.mono | apply intrusionref02_Sum.mono | apply LeO.refl | apply LeO.none | refine LeO.ite ?_ ?_ | refine LeO.bind ?_ (fun _ => ?_)
theorem intrusionref17_WrapGre.mono : ∀ a0 a1 a2 a3 a4 a5 a6 a7 a8 a9 k, LeO (intrusionref17_WrapGre.f k a0 a1 a2 a3 a4 a5 a6 a7 a8 a9) (intrusionref17_WrapGre.f (k + 1) a0 a1 a2 a3 a4 a5 a6 a7 a8 a9) := by
 intro a0 a1 a2 a3 a4 a5 a6 a7 a8 a9 k
 have ih0 := intrusionref17_WrapGre.mono_l k
 unfold intrusionref17_WrapGre.f
 repeat' first | with_reducible first | apply ih0 | apply intrusionref01_Put.mono | apply intrusionref02_Sum.mono | apply LeO.refl | apply LeO.none | refine LeO.ite ?_ ?_ | refine LeO.bind ?_ (fun _ => ?_)
def intrusionref17_WrapGre.T9 : Bool × List (List Nat × List Nat) := (true, [([], []), ([], []), ([], []), ([2], [2]), ([3, 3], [3]), ([4], [4]), ([], []), ([5, 6], [5, 6]), ([0, 1, 7, 4], [0, 1, 7]), ([8], [8]), ([8], [8]), ([9, 8, 0, 1, 2, 3, 4, 5, 6, 7, 8, 9, 10], [9]), ([10, 11, 0, 1, 2, 3, 4, 5, 6, 7, 8, 9, 10, 11], [10])])
def intrusionref17_WrapGre.B9 : List Nat := [0, 0, 0, 4, 12, 28, 0, 124, 255, 511, 511, 2047, 4095]
theorem intrusionref17_WrapGre.tab9 : rtab .any (opsOf Tryd.f13 9) = intrusionref17_WrapGre.T9 := by kernel_rfl
theorem intrusionref17_WrapGre.bits9 : waitsOk intrusionref17_WrapGre.T9.2 intrusionref17_WrapGre.B9 = true := by kernel_rfl
def intrusionref17_WrapGre.T12 : Bool × List (List Nat × List Nat) := (true, [([], []), ([], []), ([], []), ([], []), ([3], [3]), ([2, 4], [2, 4]), ([5], [5]), ([], []), ([6, 7], [6, 7]), ([0, 1, 8, 4], [0, 1, 8]), ([9], [9]), ([9], [9]), ([10, 9, 0, 1, 2, 3, 4, 5, 6, 7, 8, 9, 10, 11], [10]), ([11, 12, 0, 1, 2, 3, 4, 5, 6, 7, 8, 9, 10, 11, 12], [11])])
def intrusionref17_WrapGre.B12 : List Nat := [0, 0, 0, 0, 8, 28, 60, 0, 252, 511, 1023, 1023, 4095, 8191]
theorem intrusionref17_WrapGre.tab12 : rtab .any (opsOf Tryd.f13 12) = intrusionref17_WrapGre.T12 := by kernel_rfl
theorem intrusionref17_WrapGre.bits12 : waitsOk intrusionref17_WrapGre.T12.2 intrusionref17_WrapGre.B12 = true := by kernel_rfl
set_option maxHeartbeats 8000000 in
set_option maxRecDepth 100000 in
theorem intrusionref17_WrapGre.calls (k : Nat) (b0 : Bool) (b1 : Int) (b2 : Int) (d0 : Bool) (d1 : Int) (d2 : Int) (a2 : Int) (a3 : ByteArray) (a4 : Int) (a5 : Bool) (r1 : Bool) (r2 : Int) (r3 : Int) (r4 : Bool) (r5 : Int) (r6 : Int) (r7 : Int) (r8 : Int) (r9 : ByteArray) (r10 : Int) (w : World) (h : intrusionref17_WrapGre.f k b0 b1 b2 d0 d1 d2 a2 a3 a4 a5 = some (r1, r2, r3, r4, r5, r6, r7, r8, r9, r10)) :
  Calls Tryd.prog 13 #[.agg #[.bool b0, .int .u64 b1, .int .u64 b2], .agg #[.bool d0, .int .u64 d1, .int .u64 d2], .int .i64 a2, .string a3, .int .u32 a4, .bool a5] w fun e w' => e = .returned (.tuple #[.agg #[.bool r1, .int .u64 r2, .int .u64 r3, .bool r4, .int .u64 r5, .int .u64 r6, .int .i64 r7, .int .i64 r8, .string r9], .int .i64 r10]) ∧ Below w.heap.size w w' := by
 have hu24 := Tryd.underlying24
 have hu30 := Tryd.underlying30
 have HB := As (Below.refl w.heap.size w)
 have H : ((intrusionref17_family.f b0 b1 b2 d0 d1 d2).bind fun t264 => (if t264 = true then (if a2 < 1 then (intrusionref17_WrapGre.j0 k a2 a3 a4 a5 true b0 b1 b2 d0 d1 d2) else (intrusionref17_WrapGre.j0 k a2 a3 a4 a5 (decide (a2 > 3)) b0 b1 b2 d0 d1 d2)) else (some (false, 0, 0, false, 0, 0, 0, 0, (⟨#[]⟩ : ByteArray), 13)))) = some (r1, r2, r3, r4, r5, r6, r7, r8, r9, r10) := h
 clear h
 replace H := bS H
 obtain ⟨t264, A7, H⟩ := H
 by_cases c8 : t264 = true
 ·subst c8
  rw [if_pos rfl] at H
  have HC9 := As H
  clear H
  go_enter Tryd.func13, Tryd.ntmps13
  go_upto_region 3 with (first | ((with_reducible refine gate_dst (N := 6) rfl ?_); refine box_event rfl (N := 6) rfl (cs := #[.bool b0, .int .u64 b1, .int .u64 b2]) (t := 24) kG ?_; intro gb261 hg w10 hbox hb; have BK261 := As (hbox); have GW261 := As ((by rw [hg]; exact (below_size (kB HB.out)) : w.heap.size ≤ gb261)); have GE261 := As ((by rw [hg]; exact (below_size (kB HB.out)) : w.heap.size ≤ gb261)); replace HB := As (below_step (kB HB.out) hb); clear hb hbox hg) | ((with_reducible refine gate_dst (N := 7) rfl ?_); refine box_event rfl (N := 7) rfl (cs := #[.bool d0, .int .u64 d1, .int .u64 d2]) (t := 24) kG ?_; intro gb262 hg w11 hbox hb; have BK262 := As (hbox); have GW262 := As ((by rw [hg]; exact (below_size (kB1 HB.out GE261.out)) : w.heap.size ≤ gb262)); have GE262 := As ((by rw [hg]; exact (below_size (kB1 HB.out GE261.out)) : w.heap.size ≤ gb262)); replace HB := As (below_step (kB1 HB.out GE261.out) hb); have NB261_262 := As ((by rw [hg]; exact Nat.ne_of_lt (blk_lt (kb BK261.out)) : gb261 ≠ gb262)); have NB262_261 := As ((by rw [hg]; exact Nat.ne_of_gt (blk_lt (kb BK261.out)) : gb262 ≠ gb261)); replace BK261 := As (blk_below (kb BK261.out) hb); clear hb hbox hg) | ((with_reducible refine gate_dst (N := 12) rfl ?_); refine box_event rfl (N := 12) rfl (cs := #[.bool false, .int .u64 0, .int .u64 0, .bool false, .int .u64 0, .int .u64 0, .int .i64 0, .int .i64 0, .string (⟨#[]⟩ : ByteArray)]) (t := 30) kG ?_; intro gb263 hg w12 hbox hb; have BK263 := As (hbox); have GW263 := As ((by rw [hg]; exact (below_size (kB2 HB.out GE261.out GE262.out)) : w.heap.size ≤ gb263)); have GE263 := As ((by rw [hg]; exact (below_size (kB2 HB.out GE261.out GE262.out)) : w.heap.size ≤ gb263)); replace HB := As (below_step (kB2 HB.out GE261.out GE262.out) hb); have NB261_263 := As ((by rw [hg]; exact Nat.ne_of_lt (blk_lt (kb BK261.out)) : gb261 ≠ gb263)); have NB263_261 := As ((by rw [hg]; exact Nat.ne_of_gt (blk_lt (kb BK261.out)) : gb263 ≠ gb261)); replace BK261 := As (blk_below (kb BK261.out) hb); have NB262_263 := As ((by rw [hg]; exact Nat.ne_of_lt (blk_lt (kb BK262.out)) : gb262 ≠ gb263)); have NB263_262 := As ((by rw [hg]; exact Nat.ne_of_gt (blk_lt (kb BK262.out)) : gb263 ≠ gb262)); replace BK262 := As (blk_below (kb BK262.out) hb); clear hb hbox hg; have hnb13 := NB261_262.out; have hnc13 := NB262_261.out; have hnb14 := NB261_263.out; have hnc14 := NB263_261.out; have hcz15_0 := cells_3 BK261.out; have hfz15_0 := fun j_ => blk_frozen BK261.out j_; have hnb16 := NB262_263.out; have hnc16 := NB263_262.out; have hcz17_0 := cells_3 BK262.out; have hfz17_0 := fun j_ => blk_frozen BK262.out j_) | ((with_reducible refine gate_callee (f := 30) rfl ?_); refine goesL_ (some 19) rfl rfl Tryd.func30 (by kernel_rfl) rfl #[.agg #[.bool b0, .int .u64 b1, .int .u64 b2], .agg #[.bool d0, .int .u64 d1, .int .u64 d2]] rfl kA ?_; (with_reducible refine (intrusionref17_family.calls b0 b1 b2 d0 d1 d2 true _ A7.out).mono ?_); rintro e w18 ⟨rfl, hb⟩; refine ⟨_, rfl, ?_⟩; replace BK261 := As (blk_below (kb BK261.out) hb); replace BK262 := As (blk_below (kb BK262.out) hb); replace BK263 := As (blk_below (kb BK263.out) hb); replace HB := As (below_step (kB3 HB.out GE261.out GE262.out GE263.out) hb); (try clear hb)))
  (try simp only [Act.put, sA, sZ, sS])
  go_cut [27] (fun v27 wc => ∃ (kq : Nat) (x27_8 : Bool), v27 = .bool x27_8 ∧ Aside0 (intrusionref17_WrapGre.j0 kq a2 a3 a4 a5 x27_8 b0 b1 b2 d0 d1 d2 = some (r1, r2, r3, r4, r5, r6, r7, r8, r9, r10)) ∧ Aside0 (kq ≤ k) ∧ Aside0 (wc.heap[gb261]? = some (.cells #[.bool b0, .int .u64 b1, .int .u64 b2] 24 (0, 0))) ∧ Aside0 (wc.heap[gb262]? = some (.cells #[.bool d0, .int .u64 d1, .int .u64 d2] 24 (0, 0))) ∧ Aside0 (wc.heap[gb263]? = some (.cells #[.bool false, .int .u64 0, .int .u64 0, .bool false, .int .u64 0, .int .u64 0, .int .i64 0, .int .i64 0, .string (⟨#[]⟩ : ByteArray)] 30 (0, 0))) ∧ Aside0 (Below w.heap.size w wc))
  case first =>
   have H := HC9.out
   clear HC9
   by_cases c19 : a2 < 1
   ·rw [if_pos c19] at H
    have c19b0 : decide (a2 < 1) = true := decide_eq_true c19
    clear c19
    (first | rw [c19b0] | (simp only [i64_w, i32_w]; rw [c19b0]) | skip)
    have H' := As H
    clear H
    go_wp2
    go_meet
    case rel => exact ⟨_, (true), kS, H', ⟨by first | omega | exact Nat.le_refl _⟩, ⟨kb BK261.out⟩, ⟨kb BK262.out⟩, ⟨kb BK263.out⟩, ⟨kB3 HB.out GE261.out GE262.out GE263.out⟩⟩
   rw [if_neg c19] at H
   have c19b0 : decide (a2 < 1) = false := decide_eq_false c19
   clear c19
   (first | rw [c19b0] | (simp only [i64_w, i32_w]; rw [c19b0]) | skip)
   have H' := As H
   clear H
   go_wp2
   go_meet
   case rel => exact ⟨_, (decide (a2 > 3)), kS, H', ⟨by first | omega | exact Nat.le_refl _⟩, ⟨kb BK261.out⟩, ⟨kb BK262.out⟩, ⟨kb BK263.out⟩, ⟨kB3 HB.out GE261.out GE262.out GE263.out⟩⟩
  clear HC9
  try clear c8
  try clear hcz15_0
  try clear hcz17_0
  try clear hfz15_0
  try clear hfz17_0
  obtain ⟨kq, x27_8, rfl, HA, HJ8, BK261, BK262, BK263, HB⟩ := hcut
  cases kq with
  | zero => exact absurd HA.out (by simp [intrusionref17_WrapGre.j0])
  | succ kj8 =>
   have H := HA.out
   clear HA
   simp only [intrusionref17_WrapGre.j0] at H
   by_cases c20 : x27_8 = true
   ·subst c20
    rw [if_pos rfl] at H
    simp only [Option.some.injEq, Prod.mk.injEq] at H
    obtain ⟨rfl, rfl, rfl, rfl, rfl, rfl, rfl, rfl, rfl, rfl⟩ := H
    go_wp2_with (first | ((with_reducible refine gate_store (t := 30) (p := 12) rfl ?_); refine store_rowev_9 gb263 (.bool false) (.int .u64 0) (.int .u64 0) (.bool false) (.int .u64 0) (.int .u64 0) (.int .i64 0) (.int .i64 0) (.string (⟨#[]⟩ : ByteArray)) rfl (t := 30) (p := 12) (v := _) rfl rfl rfl rfl (t' := 30) (kb BK263.out) (by rfl) (by kernel_rfl) (by rfl) ?_))
    refine bodyPost_ret (results_ct rfl _ _ gb263 30 #[.bool false, .int .u64 0, .int .u64 0, .bool false, .int .u64 0, .int .u64 0, .int .i64 0, .int .i64 0, .string (⟨#[]⟩ : ByteArray)] (0, 0) _ rfl (by refine kb ?_; exact blk_all_9 (kb BK263.out) (by rfl)) Tryd.underlying30 rfl (by kernel_rfl)) rfl ?_
    exact ⟨kE, by exact kB3 HB.out GE261.out GE262.out GE263.out⟩
   replace c20 := Bool.eq_false_iff.mpr c20
   subst c20
   rw [if_neg (show ¬ (false = true) by decide)] at H
   by_cases c21 : (a3.size : Int) > 65000
   ·rw [if_pos c21] at H
    have c21b0 : decide (65000 < (a3.size : Int)) = true := decide_eq_true c21
    have c21b1 : decide (65000 < a3.size) = true := decide_eq_true (by omega)
    clear c21
    simp only [Option.some.injEq, Prod.mk.injEq] at H
    obtain ⟨rfl, rfl, rfl, rfl, rfl, rfl, rfl, rfl, rfl, rfl⟩ := H
    go_wp2_with (first | ((with_reducible refine gate_store (t := 30) (p := 12) rfl ?_); refine store_rowev_9 gb263 (.bool false) (.int .u64 0) (.int .u64 0) (.bool false) (.int .u64 0) (.int .u64 0) (.int .i64 0) (.int .i64 0) (.string (⟨#[]⟩ : ByteArray)) rfl (t := 30) (p := 12) (v := _) rfl rfl rfl rfl (t' := 30) (kb BK263.out) (by rfl) (by kernel_rfl) (by rfl) ?_))
    refine bodyPost_ret (results_ct rfl _ _ gb263 30 #[.bool false, .int .u64 0, .int .u64 0, .bool false, .int .u64 0, .int .u64 0, .int .i64 0, .int .i64 0, .string (⟨#[]⟩ : ByteArray)] (0, 0) _ rfl (by refine kb ?_; exact blk_all_9 (kb BK263.out) (by rfl)) Tryd.underlying30 rfl (by kernel_rfl)) rfl ?_
    exact ⟨kE, by exact kB3 HB.out GE261.out GE262.out GE263.out⟩
   rw [if_neg c21] at H
   have c21b0 : decide (65000 < (a3.size : Int)) = false := decide_eq_false c21
   have c21b1 : decide (65000 < a3.size) = false := decide_eq_false (by omega)
   clear c21
   replace H := bS H
   obtain ⟨t265, A22, H⟩ := H
   replace H := iS H
   obtain ⟨c23, H⟩ := H
   have c23b0 := eq_true c23
   have c23b1 := decide_eq_true c23
   try have c23b2 := eq_false (Nat.not_lt.2 c23)
   by_cases c24 : a5 = true
   ·subst c24
    rw [if_pos rfl] at H
    replace H := bS H
    obtain ⟨t278, A25, H⟩ := H
    replace H := bS H
    obtain ⟨t279, A26, H⟩ := H
    replace H := iS H
    obtain ⟨c27, H⟩ := H
    have c27b0 := eq_true c27
    have c27b1 := decide_eq_true c27
    try have c27b2 := eq_false (Nat.not_lt.2 c27)
    replace H := iS H
    obtain ⟨c28, H⟩ := H
    have c28b0 := eq_true c28
    have c28b1 := decide_eq_true c28
    try obtain ⟨c28s0, c28s1, c28s2⟩ := sz_ (a := (2 + t279.size) + 4) c28
    try have c28b2 := eq_false (Nat.not_lt.2 c28)
    replace H := iS H
    obtain ⟨c29, H⟩ := H
    have c29b0 := eq_true c29
    have c29b1 := decide_eq_true c29
    try obtain ⟨c29s0, c29s1, c29s2⟩ := sz_ (a := (2 + t279.size + 4) + (t265.size + a3.size)) c29
    try obtain ⟨c29s3, c29s4, c29s5⟩ := sz_ (a := 2 + t279.size + 4 + t265.size + a3.size) c29
    try have c29b2 := eq_false (Nat.not_lt.2 c29)
    replace H := bS H
    obtain ⟨t280, A30, H⟩ := H
    replace H := bS H
    obtain ⟨t281, A31, H⟩ := H
    replace H := iS H
    obtain ⟨c32, H⟩ := H
    have c32b0 := eq_true c32
    have c32b1 := decide_eq_true c32
    try obtain ⟨c32s0, c32s1, c32s2⟩ := sz_ (a := (2 + t279.size) + t281.size) c32
    try have c32b2 := eq_false (Nat.not_lt.2 c32)
    replace H := iS H
    obtain ⟨c33, H⟩ := H
    have c33b0 := eq_true c33
    have c33b1 := decide_eq_true c33
    try obtain ⟨c33s0, c33s1, c33s2⟩ := sz_ (a := (2 + t279.size + t281.size) + 2) c33
    try have c33b2 := eq_false (Nat.not_lt.2 c33)
    replace H := iS H
    obtain ⟨c34, H⟩ := H
    have c34b0 := eq_true c34
    have c34b1 := decide_eq_true c34
    try obtain ⟨c34s0, c34s1, c34s2⟩ := sz_ (a := (2 + t279.size + t281.size + 2) + (t265.size + a3.size)) c34
    try obtain ⟨c34s3, c34s4, c34s5⟩ := sz_ (a := 2 + t279.size + t281.size + 2 + t265.size + a3.size) c34
    try have c34b2 := eq_false (Nat.not_lt.2 c34)
    replace H := Option.bind_eq_some_iff.mp H
    obtain ⟨⟨t282, t283, t284, t285, t286, t287, t288, t289, t290, t291⟩, A350, H⟩ := H
    replace H : (some (t282, t283, t284, t285, t286, t287, t288, t289, t290, t291)) = some (r1, r2, r3, r4, r5, r6, r7, r8, r9, r10) := H
    have A35 := As A350
    clear A350
    simp only [Option.some.injEq, Prod.mk.injEq] at H
    obtain ⟨rfl, rfl, rfl, rfl, rfl, rfl, rfl, rfl, rfl, rfl⟩ := H
    try go_wp2_with (first | ((with_reducible refine gate_callee (f := 31) rfl ?_); refine goesL_ (some 35) rfl rfl Tryd.func31 (by kernel_rfl) rfl #[.int .i64 (wrap64 (a4)), .int .i64 4] rfl kA ?_; (with_reducible refine (intrusionref01_Put.calls kj8 (wrap64 (a4)) 4 t265 _ A22.out).mono ?_); rintro e w36 ⟨rfl, hb⟩; refine ⟨_, rfl, ?_⟩; replace BK261 := As (blk_below (kb BK261.out) hb); replace BK262 := As (blk_below (kb BK262.out) hb); replace BK263 := As (blk_below (kb BK263.out) hb); replace HB := As (below_step (kB3 HB.out GE261.out GE262.out GE263.out) hb); (try clear hb)) | ((with_reducible refine gate_callee (f := 33) rfl ?_); refine goesL_ (some 52) rfl rfl Tryd.func33 (by kernel_rfl) rfl #[.int .i64 a2] rfl kA ?_; (with_reducible refine (intrusionref17_typeOf.calls a2 t278 _ A25.out).mono ?_); rintro e w' ⟨rfl, ⟨nd, rfl⟩⟩; refine ⟨_, rfl, ?_⟩; (try (rw [drewN_self w36]; generalize hq_ : World.drewN w36 _ = w36; have n0_ : Aside0 (w36.heap[gb261]? = some (.cells #[.bool b0, .int .u64 b1, .int .u64 b2] 24 (0, 0))) := ⟨by rw [← hq_]; exact (kb BK261.out)⟩; have n1_ : Aside0 (w36.heap[gb262]? = some (.cells #[.bool d0, .int .u64 d1, .int .u64 d2] 24 (0, 0))) := ⟨by rw [← hq_]; exact (kb BK262.out)⟩; have n2_ : Aside0 (w36.heap[gb263]? = some (.cells #[.bool false, .int .u64 0, .int .u64 0, .bool false, .int .u64 0, .int .u64 0, .int .i64 0, .int .i64 0, .string (⟨#[]⟩ : ByteArray)] 30 (0, 0))) := ⟨by rw [← hq_]; exact (kb BK263.out)⟩; have n3_ : Aside0 (Below w.heap.size w w36) := ⟨by rw [← hq_]; exact (kB3 HB.out GE261.out GE262.out GE263.out)⟩; clear BK261 BK262 BK263 HB hq_; have BK261 := n0_; have BK262 := n1_; have BK263 := n2_; have HB := n3_; clear n0_ n1_ n2_ n3_))) | ((with_reducible refine gate_callee (f := 31) rfl ?_); refine goesL_ (some 53) rfl rfl Tryd.func31 (by kernel_rfl) rfl #[.int .i64 t278, .int .i64 2] rfl kA ?_; (with_reducible refine (intrusionref01_Put.calls kj8 t278 2 t279 _ A26.out).mono ?_); rintro e w37 ⟨rfl, hb⟩; refine ⟨_, rfl, ?_⟩; replace BK261 := As (blk_below (kb BK261.out) hb); replace BK262 := As (blk_below (kb BK262.out) hb); replace BK263 := As (blk_below (kb BK263.out) hb); replace HB := As (below_step (kB3 HB.out GE261.out GE262.out GE263.out) hb); (try clear hb)) | ((with_reducible refine gate_callee (f := 34) rfl ?_); refine goesL_ (some 59) rfl rfl Tryd.func34 (by kernel_rfl) rfl #[.string ((((⟨#[160, 0]⟩ : ByteArray) ++ t279) ++ (⟨#[0, 0, 0, 0]⟩ : ByteArray)) ++ (t265 ++ a3))] rfl kA ?_; (with_reducible refine (intrusionref02_Sum.calls kj8 ((((⟨#[160, 0]⟩ : ByteArray) ++ t279) ++ (⟨#[0, 0, 0, 0]⟩ : ByteArray)) ++ (t265 ++ a3)) t280 _ A30.out).mono ?_); rintro e w' ⟨rfl, ⟨nd, rfl⟩⟩; refine ⟨_, rfl, ?_⟩; (try (rw [drewN_self w37]; generalize hq_ : World.drewN w37 _ = w37; have n0_ : Aside0 (w37.heap[gb261]? = some (.cells #[.bool b0, .int .u64 b1, .int .u64 b2] 24 (0, 0))) := ⟨by rw [← hq_]; exact (kb BK261.out)⟩; have n1_ : Aside0 (w37.heap[gb262]? = some (.cells #[.bool d0, .int .u64 d1, .int .u64 d2] 24 (0, 0))) := ⟨by rw [← hq_]; exact (kb BK262.out)⟩; have n2_ : Aside0 (w37.heap[gb263]? = some (.cells #[.bool false, .int .u64 0, .int .u64 0, .bool false, .int .u64 0, .int .u64 0, .int .i64 0, .int .i64 0, .string (⟨#[]⟩ : ByteArray)] 30 (0, 0))) := ⟨by rw [← hq_]; exact (kb BK263.out)⟩; have n3_ : Aside0 (Below w.heap.size w w37) := ⟨by rw [← hq_]; exact (kB3 HB.out GE261.out GE262.out GE263.out)⟩; clear BK261 BK262 BK263 HB hq_; have BK261 := n0_; have BK262 := n1_; have BK263 := n2_; have HB := n3_; clear n0_ n1_ n2_ n3_))))
    replace BK261 := As (blk_drew BK261.out)
    replace BK262 := As (blk_drew BK262.out)
    replace BK263 := As (blk_drew BK263.out)
    replace HB := As (below_drew1 HB.out)
    refine start_ (n := 14) (S := fun w' => w'.cell? ⟨gb261, 0, none⟩ = some (.bool b0) ∧ w'.cell? ⟨gb261, 1, none⟩ = some (.int .u64 b1) ∧ w'.cell? ⟨gb261, 2, none⟩ = some (.int .u64 b2) ∧ w'.cell? ⟨gb262, 0, none⟩ = some (.bool d0) ∧ w'.cell? ⟨gb262, 1, none⟩ = some (.int .u64 d1) ∧ w'.cell? ⟨gb262, 2, none⟩ = some (.int .u64 d2)) (ds := []) #[O, O, O, O, O, O, O, O, O, O, O, O, O, O] (by kernel_rfl) rfl rfl ⟨kC BK261.out 0, kC BK261.out 1, kC BK261.out 2, kC BK262.out 0, kC BK262.out 1, kC BK262.out 2⟩ (fun hHeld => ?_); refine with_tabW intrusionref17_WrapGre.tab12 intrusionref17_WrapGre.bits12 (fun HT_ HW_ => ?_)
    generalize w37.drew = w38 at BK261 BK262 BK263 HB hHeld ⊢
    refine kP 2 62 #[O, O, I, O, O, O, O, O, O, O, O, O, O, O] ?_ (any_of HT_.out (by kernel_rfl))
    refine kP 3 63 #[O, O, I, I, O, O, O, O, O, O, O, O, O, O] ?_ (any_of HT_.out (by kernel_rfl))
    refine kP 7 67 #[O, O, I, I, O, O, O, I, O, O, O, O, O, O] ?_ (any_of HT_.out (by kernel_rfl))
    refine take_ (i := 0) (N := some 60) (v := ?_) (a' := ?_) #[I, O, I, I, O, O, O, I, O, O, O, O, O, O] rfl rfl (take_ofW HT_.out HW_.out (by kernel_rfl)) (fun _ _ _ h => h) (Or.inl ⟨by rfl, ?_⟩) hHeld ?_ ?_
    rotate_left
    ·rintro w' ⟨s0, s1, s2, s3, s4, s5⟩
     go_simp
     with_reducible rfl
    rotate_left
    ·simp only [Act.put, sA, sZ, sS, i64_w, i32_w]
     rfl
    refine take_ (i := 1) (N := some 61) (v := ?_) (a' := ?_) #[I, I, I, I, O, O, O, I, O, O, O, O, O, O] rfl rfl (take_ofW HT_.out HW_.out (by kernel_rfl)) (fun _ _ _ h => h) (Or.inl ⟨by rfl, ?_⟩) hHeld ?_ ?_
    rotate_left
    ·rintro w' ⟨s0, s1, s2, s3, s4, s5⟩
     go_simp
     with_reducible rfl
    rotate_left
    ·simp only [Act.put, sA, sZ, sS, i64_w, i32_w]
     rfl
    refine one_ (i := 4) (N := some 64) #[I, I, I, I, I, O, O, I, O, O, O, O, O, O] rfl rfl (one_of HT_.out (by kernel_rfl)) (by decide) (fun K hK => ?_)
    refine goes_ Tryd.func31 (by kernel_rfl) rfl #[.int .i64 t280, .int .i64 2] (by rfl) rfl rfl kA ?_
    with_reducible refine (intrusionref01_Put.calls kj8 t280 2 t281 _ A31.out).mono ?_
    rintro e w39 ⟨rfl, hb⟩
    refine ⟨_, rfl, ?_⟩
    replace BK261 := As (blk_below (kb BK261.out) hb)
    replace BK262 := As (blk_below (kb BK262.out) hb)
    replace BK263 := As (blk_below (kb BK263.out) hb)
    replace HB := As (below_step (kB3 HB.out GE261.out GE262.out GE263.out) hb)
    (try clear hb)
    (try clear hb2)
    (try clear hk)
    (try clear hi)
    refine hK.out _ _ ⟨kC BK261.out 0, kC BK261.out 1, kC BK261.out 2, kC BK262.out 0, kC BK262.out 1, kC BK262.out 2⟩ (fun hHeld => ?_)
    clear hK K
    refine nP ?_
    refine kP 5 65 #[I, I, I, I, I, I, O, I, O, O, O, O, O, O] ?_ (any_of HT_.out (by kernel_rfl))
    refine kP 6 66 #[I, I, I, I, I, I, I, I, O, O, O, O, O, O] ?_ (any_of HT_.out (by kernel_rfl))
    refine kP 8 68 #[I, I, I, I, I, I, I, I, I, O, O, O, O, O] ?_ (any_of HT_.out (by kernel_rfl))
    refine one_ (i := 9) (N := some 69) #[I, I, I, I, I, I, I, I, I, I, O, O, O, O] rfl rfl (one_of HT_.out (by kernel_rfl)) (by decide) (fun K hK => ?_)
    refine goes_ Tryd.func32 (by kernel_rfl) rfl #[.agg #[.bool b0, .int .u64 b1, .int .u64 b2], .agg #[.bool d0, .int .u64 d1, .int .u64 d2], .int .i64 47, .string (((((⟨#[160, 0]⟩ : ByteArray) ++ t279) ++ t281) ++ (⟨#[0, 0]⟩ : ByteArray)) ++ (t265 ++ a3))] (by rfl) rfl rfl kA ?_
    with_reducible refine (intrusionref17_made.calls b0 b1 b2 d0 d1 d2 47 (((((⟨#[160, 0]⟩ : ByteArray) ++ t279) ++ t281) ++ (⟨#[0, 0]⟩ : ByteArray)) ++ (t265 ++ a3)) t282 t283 t284 t285 t286 t287 t288 t289 t290 t291 _ A35.out).mono ?_
    rintro e w40 ⟨rfl, hb⟩
    refine ⟨_, rfl, ?_⟩
    replace BK261 := As (blk_below (kb BK261.out) hb)
    replace BK262 := As (blk_below (kb BK262.out) hb)
    replace BK263 := As (blk_below (kb BK263.out) hb)
    replace HB := As (below_step (kB3 HB.out GE261.out GE262.out GE263.out) hb)
    (try clear hb)
    (try clear hb2)
    (try clear hk)
    (try clear hi)
    refine hK.out _ _ ⟨kC BK261.out 0, kC BK261.out 1, kC BK261.out 2, kC BK262.out 0, kC BK262.out 1, kC BK262.out 2⟩ (fun hHeld => ?_)
    clear hK K
    refine nP ?_
    refine kP 10 70 #[I, I, I, I, I, I, I, I, I, I, I, O, O, O] ?_ (any_of HT_.out (by kernel_rfl))
    refine kP 11 71 #[I, I, I, I, I, I, I, I, I, I, I, I, O, O] ?_ (any_of HT_.out (by kernel_rfl))
    refine one_ (i := 12) (N := none) #[I, I, I, I, I, I, I, I, I, I, I, I, I, O] rfl rfl (one_of HT_.out (by kernel_rfl)) (by decide) (fun K hK => ?_)
    have hs41 : w40.cell? ⟨gb263, 0, none⟩ = some (.bool false) := (blk_cell BK263.out 0).trans rfl
    have hfs41 := blk_frozen BK263.out 0
    have hns41_0 := NB261_263.out
    have hns41_1 := NB262_263.out
    have hms41_0 := NB263_261.out
    have hms41_1 := NB263_262.out
    have hs42 : w40.cell? ⟨gb263, 1, none⟩ = some (.int .u64 0) := (blk_cell BK263.out 1).trans rfl
    have hfs42 := blk_frozen BK263.out 1
    have hns42_0 := NB261_263.out
    have hns42_1 := NB262_263.out
    have hms42_0 := NB263_261.out
    have hms42_1 := NB263_262.out
    have hs43 : w40.cell? ⟨gb263, 2, none⟩ = some (.int .u64 0) := (blk_cell BK263.out 2).trans rfl
    have hfs43 := blk_frozen BK263.out 2
    have hns43_0 := NB261_263.out
    have hns43_1 := NB262_263.out
    have hms43_0 := NB263_261.out
    have hms43_1 := NB263_262.out
    have hs44 : w40.cell? ⟨gb263, 3, none⟩ = some (.bool false) := (blk_cell BK263.out 3).trans rfl
    have hfs44 := blk_frozen BK263.out 3
    have hns44_0 := NB261_263.out
    have hns44_1 := NB262_263.out
    have hms44_0 := NB263_261.out
    have hms44_1 := NB263_262.out
    have hs45 : w40.cell? ⟨gb263, 4, none⟩ = some (.int .u64 0) := (blk_cell BK263.out 4).trans rfl
    have hfs45 := blk_frozen BK263.out 4
    have hns45_0 := NB261_263.out
    have hns45_1 := NB262_263.out
    have hms45_0 := NB263_261.out
    have hms45_1 := NB263_262.out
    have hs46 : w40.cell? ⟨gb263, 5, none⟩ = some (.int .u64 0) := (blk_cell BK263.out 5).trans rfl
    have hfs46 := blk_frozen BK263.out 5
    have hns46_0 := NB261_263.out
    have hns46_1 := NB262_263.out
    have hms46_0 := NB263_261.out
    have hms46_1 := NB263_262.out
    have hs47 : w40.cell? ⟨gb263, 6, none⟩ = some (.int .i64 0) := (blk_cell BK263.out 6).trans rfl
    have hfs47 := blk_frozen BK263.out 6
    have hns47_0 := NB261_263.out
    have hns47_1 := NB262_263.out
    have hms47_0 := NB263_261.out
    have hms47_1 := NB263_262.out
    have hs48 : w40.cell? ⟨gb263, 7, none⟩ = some (.int .i64 0) := (blk_cell BK263.out 7).trans rfl
    have hfs48 := blk_frozen BK263.out 7
    have hns48_0 := NB261_263.out
    have hns48_1 := NB262_263.out
    have hms48_0 := NB263_261.out
    have hms48_1 := NB263_262.out
    have hs49 : w40.cell? ⟨gb263, 8, none⟩ = some (.string (⟨#[]⟩ : ByteArray)) := (blk_cell BK263.out 8).trans rfl
    have hfs49 := blk_frozen BK263.out 8
    have hns49_0 := NB261_263.out
    have hns49_1 := NB262_263.out
    have hms49_0 := NB263_261.out
    have hms49_1 := NB263_262.out
    refine skip_ (w1 := ?_) (by rfl) rfl ?_ ?_
    rotate_left
    ·go_simp
     rfl
    refine hK.out _ _ ⟨((cell_far (p := ⟨gb263, _, none⟩) NB261_263.out _).trans (((cell_far (p := ⟨gb263, _, none⟩) NB261_263.out _).trans (((cell_far (p := ⟨gb263, _, none⟩) NB261_263.out _).trans (((cell_far (p := ⟨gb263, _, none⟩) NB261_263.out _).trans (((cell_far (p := ⟨gb263, _, none⟩) NB261_263.out _).trans (((cell_far (p := ⟨gb263, _, none⟩) NB261_263.out _).trans (((cell_far (p := ⟨gb263, _, none⟩) NB261_263.out _).trans (((cell_far (p := ⟨gb263, _, none⟩) NB261_263.out _).trans (kF NB261_263.out hHeld.1)))))))))))))))), ((cell_far (p := ⟨gb263, _, none⟩) NB261_263.out _).trans (((cell_far (p := ⟨gb263, _, none⟩) NB261_263.out _).trans (((cell_far (p := ⟨gb263, _, none⟩) NB261_263.out _).trans (((cell_far (p := ⟨gb263, _, none⟩) NB261_263.out _).trans (((cell_far (p := ⟨gb263, _, none⟩) NB261_263.out _).trans (((cell_far (p := ⟨gb263, _, none⟩) NB261_263.out _).trans (((cell_far (p := ⟨gb263, _, none⟩) NB261_263.out _).trans (((cell_far (p := ⟨gb263, _, none⟩) NB261_263.out _).trans (kF NB261_263.out hHeld.2.1)))))))))))))))), ((cell_far (p := ⟨gb263, _, none⟩) NB261_263.out _).trans (((cell_far (p := ⟨gb263, _, none⟩) NB261_263.out _).trans (((cell_far (p := ⟨gb263, _, none⟩) NB261_263.out _).trans (((cell_far (p := ⟨gb263, _, none⟩) NB261_263.out _).trans (((cell_far (p := ⟨gb263, _, none⟩) NB261_263.out _).trans (((cell_far (p := ⟨gb263, _, none⟩) NB261_263.out _).trans (((cell_far (p := ⟨gb263, _, none⟩) NB261_263.out _).trans (((cell_far (p := ⟨gb263, _, none⟩) NB261_263.out _).trans (kF NB261_263.out hHeld.2.2.1)))))))))))))))), ((cell_far (p := ⟨gb263, _, none⟩) NB262_263.out _).trans (((cell_far (p := ⟨gb263, _, none⟩) NB262_263.out _).trans (((cell_far (p := ⟨gb263, _, none⟩) NB262_263.out _).trans (((cell_far (p := ⟨gb263, _, none⟩) NB262_263.out _).trans (((cell_far (p := ⟨gb263, _, none⟩) NB262_263.out _).trans (((cell_far (p := ⟨gb263, _, none⟩) NB262_263.out _).trans (((cell_far (p := ⟨gb263, _, none⟩) NB262_263.out _).trans (((cell_far (p := ⟨gb263, _, none⟩) NB262_263.out _).trans (kF NB262_263.out hHeld.2.2.2.1)))))))))))))))), ((cell_far (p := ⟨gb263, _, none⟩) NB262_263.out _).trans (((cell_far (p := ⟨gb263, _, none⟩) NB262_263.out _).trans (((cell_far (p := ⟨gb263, _, none⟩) NB262_263.out _).trans (((cell_far (p := ⟨gb263, _, none⟩) NB262_263.out _).trans (((cell_far (p := ⟨gb263, _, none⟩) NB262_263.out _).trans (((cell_far (p := ⟨gb263, _, none⟩) NB262_263.out _).trans (((cell_far (p := ⟨gb263, _, none⟩) NB262_263.out _).trans (((cell_far (p := ⟨gb263, _, none⟩) NB262_263.out _).trans (kF NB262_263.out hHeld.2.2.2.2.1)))))))))))))))), ((cell_far (p := ⟨gb263, _, none⟩) NB262_263.out _).trans (((cell_far (p := ⟨gb263, _, none⟩) NB262_263.out _).trans (((cell_far (p := ⟨gb263, _, none⟩) NB262_263.out _).trans (((cell_far (p := ⟨gb263, _, none⟩) NB262_263.out _).trans (((cell_far (p := ⟨gb263, _, none⟩) NB262_263.out _).trans (((cell_far (p := ⟨gb263, _, none⟩) NB262_263.out _).trans (((cell_far (p := ⟨gb263, _, none⟩) NB262_263.out _).trans (((cell_far (p := ⟨gb263, _, none⟩) NB262_263.out _).trans (kF NB262_263.out hHeld.2.2.2.2.2))))))))))))))))⟩ (fun hHeld => ?_)
    clear hK K
    refine kP 13 13 #[I, I, I, I, I, I, I, I, I, I, I, I, I, I] ?_ (any_of HT_.out (by kernel_rfl))
    refine done_ (done_of HT_.out (by kernel_rfl)) ?_
    try go_wp2
    refine bodyPost_ret (results_ct rfl _ _ gb263 30 #[.bool t282, .int .u64 t283, .int .u64 t284, .bool t285, .int .u64 t286, .int .u64 t287, .int .i64 t288, .int .i64 t289, .string t290] (0, 0) _ rfl (by refine kb ?_; exact blk_all_9 (kb BK263.out) (by rfl)) Tryd.underlying30 rfl (by kernel_rfl)) rfl ?_
    exact ⟨kE, by exact kB3 HB.out GE261.out GE262.out GE263.out⟩
   replace c24 := Bool.eq_false_iff.mpr c24
   subst c24
   rw [if_neg (show ¬ (false = true) by decide)] at H
   replace H := bS H
   obtain ⟨t266, A50, H⟩ := H
   replace H := bS H
   obtain ⟨t267, A51, H⟩ := H
   replace H := iS H
   obtain ⟨c52, H⟩ := H
   have c52b0 := eq_true c52
   have c52b1 := decide_eq_true c52
   try have c52b2 := eq_false (Nat.not_lt.2 c52)
   replace H := iS H
   obtain ⟨c53, H⟩ := H
   have c53b0 := eq_true c53
   have c53b1 := decide_eq_true c53
   try obtain ⟨c53s0, c53s1, c53s2⟩ := sz_ (a := (2 + t267.size) + (t265.size + a3.size)) c53
   try obtain ⟨c53s3, c53s4, c53s5⟩ := sz_ (a := 2 + t267.size + t265.size + a3.size) c53
   try have c53b2 := eq_false (Nat.not_lt.2 c53)
   replace H := Option.bind_eq_some_iff.mp H
   obtain ⟨⟨t268, t269, t270, t271, t272, t273, t274, t275, t276, t277⟩, A540, H⟩ := H
   replace H : (some (t268, t269, t270, t271, t272, t273, t274, t275, t276, t277)) = some (r1, r2, r3, r4, r5, r6, r7, r8, r9, r10) := H
   have A54 := As A540
   clear A540
   simp only [Option.some.injEq, Prod.mk.injEq] at H
   obtain ⟨rfl, rfl, rfl, rfl, rfl, rfl, rfl, rfl, rfl, rfl⟩ := H
   try go_wp2_with (first | ((with_reducible refine gate_callee (f := 31) rfl ?_); refine goesL_ (some 35) rfl rfl Tryd.func31 (by kernel_rfl) rfl #[.int .i64 (wrap64 (a4)), .int .i64 4] rfl kA ?_; (with_reducible refine (intrusionref01_Put.calls kj8 (wrap64 (a4)) 4 t265 _ A22.out).mono ?_); rintro e w55 ⟨rfl, hb⟩; refine ⟨_, rfl, ?_⟩; replace BK261 := As (blk_below (kb BK261.out) hb); replace BK262 := As (blk_below (kb BK262.out) hb); replace BK263 := As (blk_below (kb BK263.out) hb); replace HB := As (below_step (kB3 HB.out GE261.out GE262.out GE263.out) hb); (try clear hb)))
   replace BK261 := As (blk_drew BK261.out)
   replace BK262 := As (blk_drew BK262.out)
   replace BK263 := As (blk_drew BK263.out)
   replace HB := As (below_drew1 HB.out)
   refine start_ (n := 13) (S := fun w' => w'.cell? ⟨gb261, 0, none⟩ = some (.bool b0) ∧ w'.cell? ⟨gb261, 1, none⟩ = some (.int .u64 b1) ∧ w'.cell? ⟨gb261, 2, none⟩ = some (.int .u64 b2) ∧ w'.cell? ⟨gb262, 0, none⟩ = some (.bool d0) ∧ w'.cell? ⟨gb262, 1, none⟩ = some (.int .u64 d1) ∧ w'.cell? ⟨gb262, 2, none⟩ = some (.int .u64 d2)) (ds := []) #[O, O, O, O, O, O, O, O, O, O, O, O, O] (by kernel_rfl) rfl rfl ⟨kC BK261.out 0, kC BK261.out 1, kC BK261.out 2, kC BK262.out 0, kC BK262.out 1, kC BK262.out 2⟩ (fun hHeld => ?_); refine with_tabW intrusionref17_WrapGre.tab9 intrusionref17_WrapGre.bits9 (fun HT_ HW_ => ?_)
   generalize w55.drew = w56 at BK261 BK262 BK263 HB hHeld ⊢
   refine kP 2 42 #[O, O, I, O, O, O, O, O, O, O, O, O, O] ?_ (any_of HT_.out (by kernel_rfl))
   refine kP 6 46 #[O, O, I, O, O, O, I, O, O, O, O, O, O] ?_ (any_of HT_.out (by kernel_rfl))
   refine take_ (i := 0) (N := some 40) (v := ?_) (a' := ?_) #[I, O, I, O, O, O, I, O, O, O, O, O, O] rfl rfl (take_ofW HT_.out HW_.out (by kernel_rfl)) (fun _ _ _ h => h) (Or.inl ⟨by rfl, ?_⟩) hHeld ?_ ?_
   rotate_left
   ·rintro w' ⟨s0, s1, s2, s3, s4, s5⟩
    go_simp
    with_reducible rfl
   rotate_left
   ·simp only [Act.put, sA, sZ, sS, i64_w, i32_w]
    rfl
   refine take_ (i := 1) (N := some 41) (v := ?_) (a' := ?_) #[I, I, I, O, O, O, I, O, O, O, O, O, O] rfl rfl (take_ofW HT_.out HW_.out (by kernel_rfl)) (fun _ _ _ h => h) (Or.inl ⟨by rfl, ?_⟩) hHeld ?_ ?_
   rotate_left
   ·rintro w' ⟨s0, s1, s2, s3, s4, s5⟩
    go_simp
    with_reducible rfl
   rotate_left
   ·simp only [Act.put, sA, sZ, sS, i64_w, i32_w]
    rfl
   refine one_ (i := 3) (N := some 43) #[I, I, I, I, O, O, I, O, O, O, O, O, O] rfl rfl (one_of HT_.out (by kernel_rfl)) (by decide) (fun K hK => ?_)
   refine goes_ Tryd.func33 (by kernel_rfl) rfl #[.int .i64 a2] (by rfl) rfl rfl kA ?_
   with_reducible refine (intrusionref17_typeOf.calls a2 t266 _ A50.out).mono ?_
   rintro e w' ⟨rfl, ⟨nd, rfl⟩⟩
   refine ⟨_, rfl, ?_⟩
   refine hK.out _ _ ⟨kC BK261.out 0, kC BK261.out 1, kC BK261.out 2, kC BK262.out 0, kC BK262.out 1, kC BK262.out 2⟩ (fun hHeld => ?_)
   clear hK K
   refine nP ?_
   refine one_ (i := 4) (N := some 44) #[I, I, I, I, I, O, I, O, O, O, O, O, O] rfl rfl (one_of HT_.out (by kernel_rfl)) (by decide) (fun K hK => ?_)
   refine goes_ Tryd.func31 (by kernel_rfl) rfl #[.int .i64 t266, .int .i64 2] (by rfl) rfl rfl kA ?_
   with_reducible refine (intrusionref01_Put.calls kj8 t266 2 t267 _ A51.out).mono ?_
   rintro e w57 ⟨rfl, hb⟩
   refine ⟨_, rfl, ?_⟩
   replace BK261 := As (blk_below (kb BK261.out) hb)
   replace BK262 := As (blk_below (kb BK262.out) hb)
   replace BK263 := As (blk_below (kb BK263.out) hb)
   replace HB := As (below_step (kB3 HB.out GE261.out GE262.out GE263.out) hb)
   (try clear hb)
   (try clear hb2)
   (try clear hk)
   (try clear hi)
   refine hK.out _ _ ⟨kC BK261.out 0, kC BK261.out 1, kC BK261.out 2, kC BK262.out 0, kC BK262.out 1, kC BK262.out 2⟩ (fun hHeld => ?_)
   clear hK K
   refine nP ?_
   refine kP 5 45 #[I, I, I, I, I, I, I, O, O, O, O, O, O] ?_ (any_of HT_.out (by kernel_rfl))
   refine kP 7 47 #[I, I, I, I, I, I, I, I, O, O, O, O, O] ?_ (any_of HT_.out (by kernel_rfl))
   refine one_ (i := 8) (N := some 48) #[I, I, I, I, I, I, I, I, I, O, O, O, O] rfl rfl (one_of HT_.out (by kernel_rfl)) (by decide) (fun K hK => ?_)
   refine goes_ Tryd.func32 (by kernel_rfl) rfl #[.agg #[.bool b0, .int .u64 b1, .int .u64 b2], .agg #[.bool d0, .int .u64 d1, .int .u64 d2], .int .i64 47, .string (((⟨#[32, 0]⟩ : ByteArray) ++ t267) ++ (t265 ++ a3))] (by rfl) rfl rfl kA ?_
   with_reducible refine (intrusionref17_made.calls b0 b1 b2 d0 d1 d2 47 (((⟨#[32, 0]⟩ : ByteArray) ++ t267) ++ (t265 ++ a3)) t268 t269 t270 t271 t272 t273 t274 t275 t276 t277 _ A54.out).mono ?_
   rintro e w58 ⟨rfl, hb⟩
   refine ⟨_, rfl, ?_⟩
   replace BK261 := As (blk_below (kb BK261.out) hb)
   replace BK262 := As (blk_below (kb BK262.out) hb)
   replace BK263 := As (blk_below (kb BK263.out) hb)
   replace HB := As (below_step (kB3 HB.out GE261.out GE262.out GE263.out) hb)
   (try clear hb)
   (try clear hb2)
   (try clear hk)
   (try clear hi)
   refine hK.out _ _ ⟨kC BK261.out 0, kC BK261.out 1, kC BK261.out 2, kC BK262.out 0, kC BK262.out 1, kC BK262.out 2⟩ (fun hHeld => ?_)
   clear hK K
   refine nP ?_
   refine kP 9 49 #[I, I, I, I, I, I, I, I, I, I, O, O, O] ?_ (any_of HT_.out (by kernel_rfl))
   refine kP 10 50 #[I, I, I, I, I, I, I, I, I, I, I, O, O] ?_ (any_of HT_.out (by kernel_rfl))
   refine one_ (i := 11) (N := none) #[I, I, I, I, I, I, I, I, I, I, I, I, O] rfl rfl (one_of HT_.out (by kernel_rfl)) (by decide) (fun K hK => ?_)
   have hs59 : w58.cell? ⟨gb263, 0, none⟩ = some (.bool false) := (blk_cell BK263.out 0).trans rfl
   have hfs59 := blk_frozen BK263.out 0
   have hns59_0 := NB261_263.out
   have hns59_1 := NB262_263.out
   have hms59_0 := NB263_261.out
   have hms59_1 := NB263_262.out
   have hs60 : w58.cell? ⟨gb263, 1, none⟩ = some (.int .u64 0) := (blk_cell BK263.out 1).trans rfl
   have hfs60 := blk_frozen BK263.out 1
   have hns60_0 := NB261_263.out
   have hns60_1 := NB262_263.out
   have hms60_0 := NB263_261.out
   have hms60_1 := NB263_262.out
   have hs61 : w58.cell? ⟨gb263, 2, none⟩ = some (.int .u64 0) := (blk_cell BK263.out 2).trans rfl
   have hfs61 := blk_frozen BK263.out 2
   have hns61_0 := NB261_263.out
   have hns61_1 := NB262_263.out
   have hms61_0 := NB263_261.out
   have hms61_1 := NB263_262.out
   have hs62 : w58.cell? ⟨gb263, 3, none⟩ = some (.bool false) := (blk_cell BK263.out 3).trans rfl
   have hfs62 := blk_frozen BK263.out 3
   have hns62_0 := NB261_263.out
   have hns62_1 := NB262_263.out
   have hms62_0 := NB263_261.out
   have hms62_1 := NB263_262.out
   have hs63 : w58.cell? ⟨gb263, 4, none⟩ = some (.int .u64 0) := (blk_cell BK263.out 4).trans rfl
   have hfs63 := blk_frozen BK263.out 4
   have hns63_0 := NB261_263.out
   have hns63_1 := NB262_263.out
   have hms63_0 := NB263_261.out
   have hms63_1 := NB263_262.out
   have hs64 : w58.cell? ⟨gb263, 5, none⟩ = some (.int .u64 0) := (blk_cell BK263.out 5).trans rfl
   have hfs64 := blk_frozen BK263.out 5
   have hns64_0 := NB261_263.out
   have hns64_1 := NB262_263.out
   have hms64_0 := NB263_261.out
   have hms64_1 := NB263_262.out
   have hs65 : w58.cell? ⟨gb263, 6, none⟩ = some (.int .i64 0) := (blk_cell BK263.out 6).trans rfl
   have hfs65 := blk_frozen BK263.out 6
   have hns65_0 := NB261_263.out
   have hns65_1 := NB262_263.out
   have hms65_0 := NB263_261.out
   have hms65_1 := NB263_262.out
   have hs66 : w58.cell? ⟨gb263, 7, none⟩ = some (.int .i64 0) := (blk_cell BK263.out 7).trans rfl
   have hfs66 := blk_frozen BK263.out 7
   have hns66_0 := NB261_263.out
   have hns66_1 := NB262_263.out
   have hms66_0 := NB263_261.out
   have hms66_1 := NB263_262.out
   have hs67 : w58.cell? ⟨gb263, 8, none⟩ = some (.string (⟨#[]⟩ : ByteArray)) := (blk_cell BK263.out 8).trans rfl
   have hfs67 := blk_frozen BK263.out 8
   have hns67_0 := NB261_263.out
   have hns67_1 := NB262_263.out
   have hms67_0 := NB263_261.out
   have hms67_1 := NB263_262.out
   refine skip_ (w1 := ?_) (by rfl) rfl ?_ ?_
   rotate_left
   ·go_simp
    rfl
   refine hK.out _ _ ⟨((cell_far (p := ⟨gb263, _, none⟩) NB261_263.out _).trans (((cell_far (p := ⟨gb263, _, none⟩) NB261_263.out _).trans (((cell_far (p := ⟨gb263, _, none⟩) NB261_263.out _).trans (((cell_far (p := ⟨gb263, _, none⟩) NB261_263.out _).trans (((cell_far (p := ⟨gb263, _, none⟩) NB261_263.out _).trans (((cell_far (p := ⟨gb263, _, none⟩) NB261_263.out _).trans (((cell_far (p := ⟨gb263, _, none⟩) NB261_263.out _).trans (((cell_far (p := ⟨gb263, _, none⟩) NB261_263.out _).trans (kF NB261_263.out hHeld.1)))))))))))))))), ((cell_far (p := ⟨gb263, _, none⟩) NB261_263.out _).trans (((cell_far (p := ⟨gb263, _, none⟩) NB261_263.out _).trans (((cell_far (p := ⟨gb263, _, none⟩) NB261_263.out _).trans (((cell_far (p := ⟨gb263, _, none⟩) NB261_263.out _).trans (((cell_far (p := ⟨gb263, _, none⟩) NB261_263.out _).trans (((cell_far (p := ⟨gb263, _, none⟩) NB261_263.out _).trans (((cell_far (p := ⟨gb263, _, none⟩) NB261_263.out _).trans (((cell_far (p := ⟨gb263, _, none⟩) NB261_263.out _).trans (kF NB261_263.out hHeld.2.1)))))))))))))))), ((cell_far (p := ⟨gb263, _, none⟩) NB261_263.out _).trans (((cell_far (p := ⟨gb263, _, none⟩) NB261_263.out _).trans (((cell_far (p := ⟨gb263, _, none⟩) NB261_263.out _).trans (((cell_far (p := ⟨gb263, _, none⟩) NB261_263.out _).trans (((cell_far (p := ⟨gb263, _, none⟩) NB261_263.out _).trans (((cell_far (p := ⟨gb263, _, none⟩) NB261_263.out _).trans (((cell_far (p := ⟨gb263, _, none⟩) NB261_263.out _).trans (((cell_far (p := ⟨gb263, _, none⟩) NB261_263.out _).trans (kF NB261_263.out hHeld.2.2.1)))))))))))))))), ((cell_far (p := ⟨gb263, _, none⟩) NB262_263.out _).trans (((cell_far (p := ⟨gb263, _, none⟩) NB262_263.out _).trans (((cell_far (p := ⟨gb263, _, none⟩) NB262_263.out _).trans (((cell_far (p := ⟨gb263, _, none⟩) NB262_263.out _).trans (((cell_far (p := ⟨gb263, _, none⟩) NB262_263.out _).trans (((cell_far (p := ⟨gb263, _, none⟩) NB262_263.out _).trans (((cell_far (p := ⟨gb263, _, none⟩) NB262_263.out _).trans (((cell_far (p := ⟨gb263, _, none⟩) NB262_263.out _).trans (kF NB262_263.out hHeld.2.2.2.1)))))))))))))))), ((cell_far (p := ⟨gb263, _, none⟩) NB262_263.out _).trans (((cell_far (p := ⟨gb263, _, none⟩) NB262_263.out _).trans (((cell_far (p := ⟨gb263, _, none⟩) NB262_263.out _).trans (((cell_far (p := ⟨gb263, _, none⟩) NB262_263.out _).trans (((cell_far (p := ⟨gb263, _, none⟩) NB262_263.out _).trans (((cell_far (p := ⟨gb263, _, none⟩) NB262_263.out _).trans (((cell_far (p := ⟨gb263, _, none⟩) NB262_263.out _).trans (((cell_far (p := ⟨gb263, _, none⟩) NB262_263.out _).trans (kF NB262_263.out hHeld.2.2.2.2.1)))))))))))))))), ((cell_far (p := ⟨gb263, _, none⟩) NB262_263.out _).trans (((cell_far (p := ⟨gb263, _, none⟩) NB262_263.out _).trans (((cell_far (p := ⟨gb263, _, none⟩) NB262_263.out _).trans (((cell_far (p := ⟨gb263, _, none⟩) NB262_263.out _).trans (((cell_far (p := ⟨gb263, _, none⟩) NB262_263.out _).trans (((cell_far (p := ⟨gb263, _, none⟩) NB262_263.out _).trans (((cell_far (p := ⟨gb263, _, none⟩) NB262_263.out _).trans (((cell_far (p := ⟨gb263, _, none⟩) NB262_263.out _).trans (kF NB262_263.out hHeld.2.2.2.2.2))))))))))))))))⟩ (fun hHeld => ?_)
   clear hK K
   refine kP 12 13 #[I, I, I, I, I, I, I, I, I, I, I, I, I] ?_ (any_of HT_.out (by kernel_rfl))
   refine done_ (done_of HT_.out (by kernel_rfl)) ?_
   try go_wp2
   refine bodyPost_ret (results_ct rfl _ _ gb263 30 #[.bool t268, .int .u64 t269, .int .u64 t270, .bool t271, .int .u64 t272, .int .u64 t273, .int .i64 t274, .int .i64 t275, .string t276] (0, 0) _ rfl (by refine kb ?_; exact blk_all_9 (kb BK263.out) (by rfl)) Tryd.underlying30 rfl (by kernel_rfl)) rfl ?_
   exact ⟨kE, by exact kB3 HB.out GE261.out GE262.out GE263.out⟩
 replace c8 := Bool.eq_false_iff.mpr c8
 subst c8
 rw [if_neg (show ¬ (false = true) by decide)] at H
 simp only [Option.some.injEq, Prod.mk.injEq] at H
 obtain ⟨rfl, rfl, rfl, rfl, rfl, rfl, rfl, rfl, rfl, rfl⟩ := H
 go_enter Tryd.func13, Tryd.ntmps13
 go_wp2_with (first | ((with_reducible refine gate_dst (N := 6) rfl ?_); refine box_event rfl (N := 6) rfl (cs := #[.bool b0, .int .u64 b1, .int .u64 b2]) (t := 24) kG ?_; intro gb261 hg w68 hbox hb; have BK261 := As (hbox); have GW261 := As ((by rw [hg]; exact (below_size (kB HB.out)) : w.heap.size ≤ gb261)); have GE261 := As ((by rw [hg]; exact (below_size (kB HB.out)) : w.heap.size ≤ gb261)); replace HB := As (below_step (kB HB.out) hb); clear hb hbox hg) | ((with_reducible refine gate_dst (N := 7) rfl ?_); refine box_event rfl (N := 7) rfl (cs := #[.bool d0, .int .u64 d1, .int .u64 d2]) (t := 24) kG ?_; intro gb262 hg w69 hbox hb; have BK262 := As (hbox); have GW262 := As ((by rw [hg]; exact (below_size (kB1 HB.out GE261.out)) : w.heap.size ≤ gb262)); have GE262 := As ((by rw [hg]; exact (below_size (kB1 HB.out GE261.out)) : w.heap.size ≤ gb262)); replace HB := As (below_step (kB1 HB.out GE261.out) hb); have NB261_262 := As ((by rw [hg]; exact Nat.ne_of_lt (blk_lt (kb BK261.out)) : gb261 ≠ gb262)); have NB262_261 := As ((by rw [hg]; exact Nat.ne_of_gt (blk_lt (kb BK261.out)) : gb262 ≠ gb261)); replace BK261 := As (blk_below (kb BK261.out) hb); clear hb hbox hg) | ((with_reducible refine gate_dst (N := 12) rfl ?_); refine box_event rfl (N := 12) rfl (cs := #[.bool false, .int .u64 0, .int .u64 0, .bool false, .int .u64 0, .int .u64 0, .int .i64 0, .int .i64 0, .string (⟨#[]⟩ : ByteArray)]) (t := 30) kG ?_; intro gb263 hg w70 hbox hb; have BK263 := As (hbox); have GW263 := As ((by rw [hg]; exact (below_size (kB2 HB.out GE261.out GE262.out)) : w.heap.size ≤ gb263)); have GE263 := As ((by rw [hg]; exact (below_size (kB2 HB.out GE261.out GE262.out)) : w.heap.size ≤ gb263)); replace HB := As (below_step (kB2 HB.out GE261.out GE262.out) hb); have NB261_263 := As ((by rw [hg]; exact Nat.ne_of_lt (blk_lt (kb BK261.out)) : gb261 ≠ gb263)); have NB263_261 := As ((by rw [hg]; exact Nat.ne_of_gt (blk_lt (kb BK261.out)) : gb263 ≠ gb261)); replace BK261 := As (blk_below (kb BK261.out) hb); have NB262_263 := As ((by rw [hg]; exact Nat.ne_of_lt (blk_lt (kb BK262.out)) : gb262 ≠ gb263)); have NB263_262 := As ((by rw [hg]; exact Nat.ne_of_gt (blk_lt (kb BK262.out)) : gb263 ≠ gb262)); replace BK262 := As (blk_below (kb BK262.out) hb); clear hb hbox hg; have hnb71 := NB261_262.out; have hnc71 := NB262_261.out; have hnb72 := NB261_263.out; have hnc72 := NB263_261.out; have hcz73_0 := cells_3 BK261.out; have hfz73_0 := fun j_ => blk_frozen BK261.out j_; have hnb74 := NB262_263.out; have hnc74 := NB263_262.out; have hcz75_0 := cells_3 BK262.out; have hfz75_0 := fun j_ => blk_frozen BK262.out j_) | ((with_reducible refine gate_callee (f := 30) rfl ?_); refine goesL_ (some 19) rfl rfl Tryd.func30 (by kernel_rfl) rfl #[.agg #[.bool b0, .int .u64 b1, .int .u64 b2], .agg #[.bool d0, .int .u64 d1, .int .u64 d2]] rfl kA ?_; (with_reducible refine (intrusionref17_family.calls b0 b1 b2 d0 d1 d2 false _ A7.out).mono ?_); rintro e w76 ⟨rfl, hb⟩; refine ⟨_, rfl, ?_⟩; replace BK261 := As (blk_below (kb BK261.out) hb); replace BK262 := As (blk_below (kb BK262.out) hb); replace BK263 := As (blk_below (kb BK263.out) hb); replace HB := As (below_step (kB3 HB.out GE261.out GE262.out GE263.out) hb); (try clear hb)) | ((with_reducible refine gate_store (t := 30) (p := 12) rfl ?_); refine store_rowev_9 gb263 (.bool false) (.int .u64 0) (.int .u64 0) (.bool false) (.int .u64 0) (.int .u64 0) (.int .i64 0) (.int .i64 0) (.string (⟨#[]⟩ : ByteArray)) rfl (t := 30) (p := 12) (v := _) rfl rfl rfl rfl (t' := 30) (kb BK263.out) (by rfl) (by kernel_rfl) (by rfl) ?_))
 refine bodyPost_ret (results_ct rfl _ _ gb263 30 #[.bool false, .int .u64 0, .int .u64 0, .bool false, .int .u64 0, .int .u64 0, .int .i64 0, .int .i64 0, .string (⟨#[]⟩ : ByteArray)] (0, 0) _ rfl (by refine kb ?_; exact blk_all_9 (kb BK263.out) (by rfl)) Tryd.underlying30 rfl (by kernel_rfl)) rfl ?_
 exact ⟨kE, by exact kB3 HB.out GE261.out GE262.out GE263.out⟩

/-! ### ipv6_within: function 95 -/
def ipv6_within.l0 : Nat → Int → List Int → Int → Int → Option (Bool)
 | 0, _, _, _, _ => none
 | k + 1, x0, x7, x8, x9 => if x9 < x8 then (if 0 ≤ x9 then (if x9 < (x7.length : Int) then (if (rd x7 x9) < 0 then (some false) else (if (rd x7 x9) > x0 then (some false) else (ipv6_within.l0 k x0 x7 x8 (wrap64 (x9 + 1))))) else (none)) else (none)) else (some true)
def ipv6_within.f (k : Nat) (a0 : Int) (l1 : List Int) : Option (Bool) := ipv6_within.l0 k a0 l1 (l1.length : Int) 0
theorem ipv6_within.mono_l : ∀ k, (∀ y0 y1 y2 y3, LeO (ipv6_within.l0 k y0 y1 y2 y3) (ipv6_within.l0 (k + 1) y0 y1 y2 y3))
 | 0 => fun _ _ _ _ r h => by simp [ipv6_within.l0] at h
 | k + 1 => by
  have ih0 := ipv6_within.mono_l k
  intro y0 y1 y2 y3
  unfold ipv6_within.l0
  repeat' first | with_reducible first | apply ih0 | apply LeO.refl | apply LeO.none | refine LeO.ite ?_ ?_ | refine LeO.bind ?_ (fun _ => ?_)
theorem ipv6_within.mono : ∀ a0 a1 k, LeO (ipv6_within.f k a0 a1) (ipv6_within.f (k + 1) a0 a1) := by
 intro a0 a1 k
 have ih0 := ipv6_within.mono_l k
 unfold ipv6_within.f
 repeat' first | with_reducible first | apply ih0 | apply LeO.refl | apply LeO.none | refine LeO.ite ?_ ?_ | refine LeO.bind ?_ (fun _ => ?_)
set_option maxHeartbeats 8000000 in
set_option maxRecDepth 100000 in
theorem ipv6_within.calls (k : Nat) (a0 : Int) (A1 : Option Addr) (c1 : Nat) (l1 : List Int) (r : Bool) (w : World) (hr1 : Kd.C (Kd.int .i64) w A1 l1.length l1) (hc1 : l1.length ≤ c1) (h : ipv6_within.f k a0 l1 = some r) :
  Calls Tryd.prog 95 #[.int .i64 a0, .slice A1 l1.length c1] w fun e w' => e = .returned (.bool r) ∧ Drawn0 w w' := by
 have HR1 := As hr1
 have HC1 := As hc1
 clear hr1 hc1
 have H : (ipv6_within.l0 k a0 l1 (l1.length : Int) 0) = some r := h
 clear h
 have H' := As H
 clear H
 go_enter Tryd.func95, Tryd.ntmps95
 go_wp2
 go_loopg [9] k (fun kq v9 w' => ∃ (x9_1 : Int), v9 = .int .i64 x9_1 ∧ Aside0 (ipv6_within.l0 kq a0 l1 (l1.length : Int) x9_1 = some r) ∧ Aside0 (kq ≤ k) ∧ Drawn0 w w')
 case atStart => exact ⟨(0), kS, H', ⟨Nat.le_refl _⟩, by repeat (first | exact Drawn0.refl _ | apply Drawn0.step)⟩
 clear H'
 try clear c1
 obtain ⟨x9_1, rfl, HA, HK1, ⟨m1, rfl⟩⟩ := hrel
 cases gk with
 | zero => exact absurd HA.out (by simp [ipv6_within.l0])
 | succ k1 =>
  have H := HA.out
  clear HA
  simp only [ipv6_within.l0] at H
  by_cases c3 : x9_1 < (l1.length : Int)
  ·rw [if_pos c3] at H
   have c3b0 : decide (x9_1 < (l1.length : Int)) = true := decide_eq_true c3
   clear c3
   replace H := iS H
   obtain ⟨c4, H⟩ := H
   have c4b0 := decide_eq_true c4
   clear c4
   replace H := iS H
   obtain ⟨c5, H⟩ := H
   have c5b0 := decide_eq_true c5
   clear c5
   by_cases c6 : (rd l1 x9_1) < 0
   ·rw [if_pos c6] at H
    have c6b0 : decide ((rd l1 x9_1) < 0) = true := decide_eq_true c6
    clear c6
    obtain rfl := Option.some.inj H
    have p292 : 0 ≤ (x9_1 : Int) := of_decide_eq_true (by first | (with_reducible assumption) | assumption)
    have q292 : x9_1 < (l1.length : Int) := of_decide_eq_true (by first | (with_reducible assumption) | assumption)
    obtain ⟨ad292, e292, hx292_0⟩ := Kd.at_int HR1.out x9_1 p292 q292
    cases e292
    replace p292 := eq_true p292
    replace q292 := eq_true q292
    go_wp2
    go_ret
    exact ⟨by first | rfl | (simp; done) | (simp [*]; done), by repeat (first | exact Drawn0.refl _ | apply Drawn0.step)⟩
   rw [if_neg c6] at H
   have c6b0 : decide ((rd l1 x9_1) < 0) = false := decide_eq_false c6
   clear c6
   by_cases c7 : (rd l1 x9_1) > a0
   ·rw [if_pos c7] at H
    have c7b0 : decide (a0 < (rd l1 x9_1)) = true := decide_eq_true c7
    clear c7
    obtain rfl := Option.some.inj H
    have p292 : 0 ≤ (x9_1 : Int) := of_decide_eq_true (by first | (with_reducible assumption) | assumption)
    have q292 : x9_1 < (l1.length : Int) := of_decide_eq_true (by first | (with_reducible assumption) | assumption)
    obtain ⟨ad292, e292, hx292_0⟩ := Kd.at_int HR1.out x9_1 p292 q292
    cases e292
    replace p292 := eq_true p292
    replace q292 := eq_true q292
    go_wp2
    go_ret
    exact ⟨by first | rfl | (simp; done) | (simp [*]; done), by repeat (first | exact Drawn0.refl _ | apply Drawn0.step)⟩
   rw [if_neg c7] at H
   have c7b0 : decide (a0 < (rd l1 x9_1)) = false := decide_eq_false c7
   clear c7
   have H' := As H
   clear H
   have p292 : 0 ≤ (x9_1 : Int) := of_decide_eq_true (by first | (with_reducible assumption) | assumption)
   have q292 : x9_1 < (l1.length : Int) := of_decide_eq_true (by first | (with_reducible assumption) | assumption)
   obtain ⟨ad292, e292, hx292_0⟩ := Kd.at_int HR1.out x9_1 p292 q292
   cases e292
   replace p292 := eq_true p292
   replace q292 := eq_true q292
   go_wp2
   go_roundg k1
   case measure => have := HK1.out; omega
   case rel => exact ⟨(wrap64 (x9_1 + 1)), kS, H', ⟨by have := HK1.out; omega⟩, by repeat (first | exact Drawn0.refl _ | apply Drawn0.step)⟩
  rw [if_neg c3] at H
  have c3b0 : decide (x9_1 < (l1.length : Int)) = false := decide_eq_false c3
  clear c3
  obtain rfl := Option.some.inj H
  go_wp2
  go_ret
  exact ⟨by first | rfl | (simp; done) | (simp [*]; done), by repeat (first | exact Drawn0.refl _ | apply Drawn0.step)⟩

end Go.Proofs.YtocobalkikkhlaaDoor.X
-- short
-- short2
