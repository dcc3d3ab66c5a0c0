/- Functions and their walks, printed by xprint.py. -/
import Derived.Test.YtocobalkikkhlaaDoorX0
import Derived.Test.YtocobalkikkhlaaDoorX13
import Derived.Test.YtocobalkikkhlaaDoorX14
import Derived.Test.YtocobalkikkhlaaDoorX18
namespace Go.Proofs.YtocobalkikkhlaaDoor.X
open Go.RowKit Go.Proofs.YtocobalkikkhlaaDoorW.PrintWords Go.Proofs.YtocobalkikkhlaaDoorW.PrintLast Go.Proofs.YtocobalkikkhlaaDoorW.PrintMore
attribute [local go_sem] max2_int min2_int max_two min_two max_three min_three max_four min_four   -- for this text's walks alone
set_option linter.unusedVariables false
set_option linter.unusedSimpArgs false

/-! ### intrusionref13_Decode: function 84 -/
def intrusionref13_Decode.j0 : Nat → ByteArray → Int → Bool → Option (Int × Int × ByteArray × Int)
 | 0, _, _, _ => none
 | k + 1, x2, x8, x52 => if x52 = true then (some (0, 0, (⟨#[]⟩ : ByteArray), 8)) else (if 0 ≤ 2 then (if 2 ≤ (x2.size : Int) then ((intrusionref01_Value.f k (x2.extract 0 2)).bind fun t340 => (if 2 ≤ 4 then (if 4 ≤ (x2.size : Int) then ((intrusionref01_Value.f k (x2.extract 2 4)).bind fun t341 => (if 8 ≤ x8 then (if x8 ≤ (x2.size : Int) then (some (t340, t341, x2.extract 8 (x8 : Int).toNat, 0)) else (none)) else (none))) else (none)) else (none))) else (none)) else (none))
def intrusionref13_Decode.f (k : Nat) (b0 : Bool) (b1 : Int) (b2 : Int) (d0 : Bool) (d1 : Int) (d2 : Int) (a2 : ByteArray) : Option (Int × Int × ByteArray × Int) := (intrusionref13_Fit.f b0 b1 b2 d0 d1 d2).bind fun t336 => (if t336 = true then (if (a2.size : Int) < 8 then (some (0, 0, (⟨#[]⟩ : ByteArray), 1)) else (if 4 ≤ 6 then (if 6 ≤ (a2.size : Int) then ((intrusionref01_Value.f k (a2.extract 4 6)).bind fun t337 => (if t337 < 8 then (some (0, 0, (⟨#[]⟩ : ByteArray), 2)) else (if t337 > (a2.size : Int) then (some (0, 0, (⟨#[]⟩ : ByteArray), 1)) else (if 6 ≤ 8 then (if 8 ≤ (a2.size : Int) then ((intrusionref01_Value.f k (a2.extract 6 8)).bind fun t338 => (if 0 ≤ 6 then (if (a2.extract 0 6).size + 2 ≤ 9223372036854775807 then (if 8 ≤ t337 then (if t337 ≤ (a2.size : Int) then (if ((a2.extract 0 6) ++ (⟨#[0, 0]⟩ : ByteArray)).size + (a2.extract 8 (t337 : Int).toNat).size ≤ 9223372036854775807 then ((intrusionref13_Sum.f k b0 b1 b2 d0 d1 d2 (((a2.extract 0 6) ++ (⟨#[0, 0]⟩ : ByteArray)) ++ (a2.extract 8 (t337 : Int).toNat))).bind fun t339 => (if t338 = t339 then (intrusionref13_Decode.j0 k a2 t337 false) else (if t338 = 0 then (intrusionref13_Decode.j0 k a2 t337 b0) else (intrusionref13_Decode.j0 k a2 t337 true)))) else (none)) else (none)) else (none)) else (none)) else (none))) else (none)) else (none))))) else (none)) else (none))) else (some (0, 0, (⟨#[]⟩ : ByteArray), 13)))
theorem intrusionref13_Decode.mono_l : ∀ k, (∀ y0 y1 y2, LeO (intrusionref13_Decode.j0 k y0 y1 y2) (intrusionref13_Decode.j0 (k + 1) y0 y1 y2))
 | 0 => fun _ _ _ r h => by simp [intrusionref13_Decode.j0] at h
 | k + 1 => by
  have ih0 := intrusionref13_Decode.mono_l k
  intro y0 y1 y2
  unfold intrusionref13_Decode.j0
  repeat' first | with_reducible first | apply ih0 | apply intrusionref01_Value.mono | apply intrusionref13_Sum.mono | apply LeO.refl | apply LeO.none | refine LeO.ite ?_ ?_ | refine LeO.bind ?_ (fun _ => ?_)
theorem intrusionref13_Decode.mono : ∀ a0 a1 a2 a3 a4 a5 a6 k, LeO (intrusionref13_Decode.f k a0 a1 a2 a3 a4 a5 a6) (intrusionref13_Decode.f (k + 1) a0 a1 a2 a3 a4 a5 a6) := by
 intro a0 a1 a2 a3 a4 a5 a6 k
 have ih0 := intrusionref13_Decode.mono_l k
 unfold intrusionref13_Decode.f
 repeat' first | with_reducible first | apply ih0 | apply intrusionref01_Value.mono | apply intrusionref13_Sum.mono | apply LeO.refl | apply LeO.none | refine LeO.ite ?_ ?_ | refine LeO.bind ?_ (fun _ => ?_)
def intrusionref13_Decode.T11 : Bool × List (List Nat × List Nat) := (true, [([], []), ([], []), ([], []), ([], []), ([3], [3]), ([4], [4]), ([], []), ([], []), ([6, 7], [6, 7]), ([5, 8], [5, 8]), ([1, 2, 9], [1, 2, 9]), ([0, 10], [0, 10]), ([11, 10], [11]), ([12], [12]), ([13, 12], [12, 13]), ([14, 12, 12], [12, 14]), ([15], [15]), ([16, 15], [15, 16]), ([15, 17, 12], [12, 15, 17]), ([12, 18], [12, 18])])
def intrusionref13_Decode.B11 : List Nat := [0, 0, 0, 0, 8, 24, 0, 0, 192, 504, 1022, 2047, 4095, 8191, 16383, 32767, 65535, 131071, 262143, 524287]
theorem intrusionref13_Decode.tab11 : rtab .any (opsOf Tryd.f84 11) = intrusionref13_Decode.T11 := by kernel_rfl
theorem intrusionref13_Decode.bits11 : waitsOk intrusionref13_Decode.T11.2 intrusionref13_Decode.B11 = true := by kernel_rfl
def intrusionref13_Decode.T13 : Bool × List (List Nat × List Nat) := (true, [([], []), ([0], [0]), ([1], [1]), ([], []), ([3], [3]), ([4, 2], [4]), ([], []), ([], []), ([6, 7], [6, 7]), ([2, 5, 8], [2, 5, 8]), ([9, 5, 0, 1, 2, 3, 4, 5, 6, 7, 8, 9], [9]), ([10, 0, 1, 2, 3, 4, 5, 6, 7, 8, 9, 10], [])])
def intrusionref13_Decode.B13 : List Nat := [0, 1, 3, 0, 8, 31, 0, 0, 192, 511, 1023, 2047]
theorem intrusionref13_Decode.tab13 : rtab .any (opsOf Tryd.f84 13) = intrusionref13_Decode.T13 := by kernel_rfl
theorem intrusionref13_Decode.bits13 : waitsOk intrusionref13_Decode.T13.2 intrusionref13_Decode.B13 = true := by kernel_rfl
set_option maxHeartbeats 8000000 in
set_option maxRecDepth 100000 in
theorem intrusionref13_Decode.calls (k : Nat) (b0 : Bool) (b1 : Int) (b2 : Int) (d0 : Bool) (d1 : Int) (d2 : Int) (a2 : ByteArray) (r1 : Int) (r2 : Int) (r3 : ByteArray) (r4 : Int) (w : World) (h : intrusionref13_Decode.f k b0 b1 b2 d0 d1 d2 a2 = some (r1, r2, r3, r4)) :
  Calls Tryd.prog 84 #[.agg #[.bool b0, .int .u64 b1, .int .u64 b2], .agg #[.bool d0, .int .u64 d1, .int .u64 d2], .string a2] w fun e w' => e = .returned (.tuple #[.agg #[.int .i64 r1, .int .i64 r2, .string r3], .int .i64 r4]) ∧ Below w.heap.size w w' := by
 have hu24 := Tryd.underlying24
 have hu85 := Tryd.underlying85
 have HB := As (Below.refl w.heap.size w)
 have H : ((intrusionref13_Fit.f b0 b1 b2 d0 d1 d2).bind fun t336 => (if t336 = true then (if (a2.size : Int) < 8 then (some (0, 0, (⟨#[]⟩ : ByteArray), 1)) else (if 4 ≤ 6 then (if 6 ≤ (a2.size : Int) then ((intrusionref01_Value.f k (a2.extract 4 6)).bind fun t337 => (if t337 < 8 then (some (0, 0, (⟨#[]⟩ : ByteArray), 2)) else (if t337 > (a2.size : Int) then (some (0, 0, (⟨#[]⟩ : ByteArray), 1)) else (if 6 ≤ 8 then (if 8 ≤ (a2.size : Int) then ((intrusionref01_Value.f k (a2.extract 6 8)).bind fun t338 => (if 0 ≤ 6 then (if (a2.extract 0 6).size + 2 ≤ 9223372036854775807 then (if 8 ≤ t337 then (if t337 ≤ (a2.size : Int) then (if ((a2.extract 0 6) ++ (⟨#[0, 0]⟩ : ByteArray)).size + (a2.extract 8 (t337 : Int).toNat).size ≤ 9223372036854775807 then ((intrusionref13_Sum.f k b0 b1 b2 d0 d1 d2 (((a2.extract 0 6) ++ (⟨#[0, 0]⟩ : ByteArray)) ++ (a2.extract 8 (t337 : Int).toNat))).bind fun t339 => (if t338 = t339 then (intrusionref13_Decode.j0 k a2 t337 false) else (if t338 = 0 then (intrusionref13_Decode.j0 k a2 t337 b0) else (intrusionref13_Decode.j0 k a2 t337 true)))) else (none)) else (none)) else (none)) else (none)) else (none))) else (none)) else (none))))) else (none)) else (none))) else (some (0, 0, (⟨#[]⟩ : ByteArray), 13)))) = some (r1, r2, r3, r4) := h
 clear h
 replace H := Option.bind_eq_some_iff.mp H
 obtain ⟨t336, A40, H⟩ := H
 replace H : (if t336 = true then (if (a2.size : Int) < 8 then (some (0, 0, (⟨#[]⟩ : ByteArray), 1)) else (if 4 ≤ 6 then (if 6 ≤ (a2.size : Int) then ((intrusionref01_Value.f k (a2.extract 4 6)).bind fun t337 => (if t337 < 8 then (some (0, 0, (⟨#[]⟩ : ByteArray), 2)) else (if t337 > (a2.size : Int) then (some (0, 0, (⟨#[]⟩ : ByteArray), 1)) else (if 6 ≤ 8 then (if 8 ≤ (a2.size : Int) then ((intrusionref01_Value.f k (a2.extract 6 8)).bind fun t338 => (if 0 ≤ 6 then (if (a2.extract 0 6).size + 2 ≤ 9223372036854775807 then (if 8 ≤ t337 then (if t337 ≤ (a2.size : Int) then (if ((a2.extract 0 6) ++ (⟨#[0, 0]⟩ : ByteArray)).size + (a2.extract 8 (t337 : Int).toNat).size ≤ 9223372036854775807 then ((intrusionref13_Sum.f k b0 b1 b2 d0 d1 d2 (((a2.extract 0 6) ++ (⟨#[0, 0]⟩ : ByteArray)) ++ (a2.extract 8 (t337 : Int).toNat))).bind fun t339 => (if t338 = t339 then (intrusionref13_Decode.j0 k a2 t337 false) else (if t338 = 0 then (intrusionref13_Decode.j0 k a2 t337 b0) else (intrusionref13_Decode.j0 k a2 t337 true)))) else (none)) else (none)) else (none)) else (none)) else (none))) else (none)) else (none))))) else (none)) else (none))) else (some (0, 0, (⟨#[]⟩ : ByteArray), 13))) = some (r1, r2, r3, r4) := H
 have A4 := As A40
 clear A40
 by_cases c5 : t336 = true
 ·subst c5
  have H1 : (if (a2.size : Int) < 8 then (some (0, 0, (⟨#[]⟩ : ByteArray), 1)) else (if 4 ≤ 6 then (if 6 ≤ (a2.size : Int) then ((intrusionref01_Value.f k (a2.extract 4 6)).bind fun t337 => (if t337 < 8 then (some (0, 0, (⟨#[]⟩ : ByteArray), 2)) else (if t337 > (a2.size : Int) then (some (0, 0, (⟨#[]⟩ : ByteArray), 1)) else (if 6 ≤ 8 then (if 8 ≤ (a2.size : Int) then ((intrusionref01_Value.f k (a2.extract 6 8)).bind fun t338 => (if 0 ≤ 6 then (if (a2.extract 0 6).size + 2 ≤ 9223372036854775807 then (if 8 ≤ t337 then (if t337 ≤ (a2.size : Int) then (if ((a2.extract 0 6) ++ (⟨#[0, 0]⟩ : ByteArray)).size + (a2.extract 8 (t337 : Int).toNat).size ≤ 9223372036854775807 then ((intrusionref13_Sum.f k b0 b1 b2 d0 d1 d2 (((a2.extract 0 6) ++ (⟨#[0, 0]⟩ : ByteArray)) ++ (a2.extract 8 (t337 : Int).toNat))).bind fun t339 => (if t338 = t339 then (intrusionref13_Decode.j0 k a2 t337 false) else (if t338 = 0 then (intrusionref13_Decode.j0 k a2 t337 b0) else (intrusionref13_Decode.j0 k a2 t337 true)))) else (none)) else (none)) else (none)) else (none)) else (none))) else (none)) else (none))))) else (none)) else (none))) = some (r1, r2, r3, r4) := by rw [if_pos rfl] at H; exact H
  clear H
  have H := H1
  clear H1
  by_cases c6 : (a2.size : Int) < 8
  ·rw [if_pos c6] at H
   have c6b0 : decide ((a2.size : Int) < 8) = true := decide_eq_true c6
   have c6b1 : decide (a2.size < 8) = true := decide_eq_true (by omega)
   clear c6
   simp only [Option.some.injEq, Prod.mk.injEq] at H
   obtain ⟨rfl, rfl, rfl, rfl⟩ := H
   go_enter Tryd.func84, Tryd.ntmps84
   go_wp2_with (first | ((with_reducible refine gate_dst (N := 3) rfl ?_); refine box_event rfl (N := 3) rfl (cs := #[.bool b0, .int .u64 b1, .int .u64 b2]) (t := 24) kG ?_; intro gb333 hg w7 hbox hb; have BK333 := As (hbox); have GW333 := As ((by rw [hg]; exact (below_size (kB HB.out)) : w.heap.size ≤ gb333)); have GE333 := As ((by rw [hg]; exact (below_size (kB HB.out)) : w.heap.size ≤ gb333)); replace HB := As (below_step (kB HB.out) hb); clear hb hbox hg) | ((with_reducible refine gate_dst (N := 4) rfl ?_); refine box_event rfl (N := 4) rfl (cs := #[.bool d0, .int .u64 d1, .int .u64 d2]) (t := 24) kG ?_; intro gb334 hg w8 hbox hb; have BK334 := As (hbox); have GW334 := As ((by rw [hg]; exact (below_size (kB1 HB.out GE333.out)) : w.heap.size ≤ gb334)); have GE334 := As ((by rw [hg]; exact (below_size (kB1 HB.out GE333.out)) : w.heap.size ≤ gb334)); replace HB := As (below_step (kB1 HB.out GE333.out) hb); have NB333_334 := As ((by rw [hg]; exact Nat.ne_of_lt (blk_lt (kb BK333.out)) : gb333 ≠ gb334)); have NB334_333 := As ((by rw [hg]; exact Nat.ne_of_gt (blk_lt (kb BK333.out)) : gb334 ≠ gb333)); replace BK333 := As (blk_below (kb BK333.out) hb); clear hb hbox hg) | ((with_reducible refine gate_dst (N := 6) rfl ?_); refine box_event rfl (N := 6) rfl (cs := #[.int .i64 0, .int .i64 0, .string (⟨#[]⟩ : ByteArray)]) (t := 85) kG ?_; intro gb335 hg w9 hbox hb; have BK335 := As (hbox); have GW335 := As ((by rw [hg]; exact (below_size (kB2 HB.out GE333.out GE334.out)) : w.heap.size ≤ gb335)); have GE335 := As ((by rw [hg]; exact (below_size (kB2 HB.out GE333.out GE334.out)) : w.heap.size ≤ gb335)); replace HB := As (below_step (kB2 HB.out GE333.out GE334.out) hb); have NB333_335 := As ((by rw [hg]; exact Nat.ne_of_lt (blk_lt (kb BK333.out)) : gb333 ≠ gb335)); have NB335_333 := As ((by rw [hg]; exact Nat.ne_of_gt (blk_lt (kb BK333.out)) : gb335 ≠ gb333)); replace BK333 := As (blk_below (kb BK333.out) hb); have NB334_335 := As ((by rw [hg]; exact Nat.ne_of_lt (blk_lt (kb BK334.out)) : gb334 ≠ gb335)); have NB335_334 := As ((by rw [hg]; exact Nat.ne_of_gt (blk_lt (kb BK334.out)) : gb335 ≠ gb334)); replace BK334 := As (blk_below (kb BK334.out) hb); clear hb hbox hg; have hnb10 := NB333_334.out; have hnc10 := NB334_333.out; have hnb11 := NB333_335.out; have hnc11 := NB335_333.out; have hcz12_0 := cells_3 BK333.out; have hfz12_0 := fun j_ => blk_frozen BK333.out j_; have hnb13 := NB334_335.out; have hnc13 := NB335_334.out; have hcz14_0 := cells_3 BK334.out; have hfz14_0 := fun j_ => blk_frozen BK334.out j_) | ((with_reducible refine gate_callee (f := 93) rfl ?_); refine goesL_ (some 12) rfl rfl Tryd.func93 (by kernel_rfl) rfl #[.agg #[.bool b0, .int .u64 b1, .int .u64 b2], .agg #[.bool d0, .int .u64 d1, .int .u64 d2]] rfl kA ?_; (with_reducible refine (intrusionref13_Fit.calls b0 b1 b2 d0 d1 d2 true _ A4.out).mono ?_); rintro e w15 ⟨rfl, hb⟩; refine ⟨_, rfl, ?_⟩; replace BK333 := As (blk_below (kb BK333.out) hb); replace BK334 := As (blk_below (kb BK334.out) hb); replace BK335 := As (blk_below (kb BK335.out) hb); replace HB := As (below_step (kB3 HB.out GE333.out GE334.out GE335.out) hb); (try clear hb); have hcz16_0 := cells_3 BK335.out; have hfz16_0 := fun j_ => blk_frozen BK335.out j_))
   refine bodyPost_ret (results_ct rfl _ _ gb335 85 #[.int .i64 0, .int .i64 0, .string (⟨#[]⟩ : ByteArray)] (0, 0) _ rfl (by refine kb ?_; exact blk_all_3 (kb BK335.out) (by rfl)) Tryd.underlying85 rfl (by kernel_rfl)) rfl ?_
   exact ⟨kE, by exact kB3 HB.out GE333.out GE334.out GE335.out⟩
  rw [if_neg c6] at H
  have c6b0 : decide ((a2.size : Int) < 8) = false := decide_eq_false c6
  have c6b1 : decide (a2.size < 8) = false := decide_eq_false (by omega)
  clear c6
  by_cases c17 : 4 ≤ 6
  ·rw [if_pos c17] at H
   have c17b0 := eq_true c17
   have c17b1 : decide (4 ≤ 6) = true := decide_eq_true c17
   clear c17
   by_cases c18 : 6 ≤ (a2.size : Int)
   ·rw [if_pos c18] at H
    have c18b0 := eq_true c18
    have c18b1 : decide (6 ≤ (a2.size : Int)) = true := decide_eq_true c18
    clear c18
    replace H := Option.bind_eq_some_iff.mp H
    obtain ⟨t337, A190, H⟩ := H
    replace H : (if t337 < 8 then (some (0, 0, (⟨#[]⟩ : ByteArray), 2)) else (if t337 > (a2.size : Int) then (some (0, 0, (⟨#[]⟩ : ByteArray), 1)) else (if 6 ≤ 8 then (if 8 ≤ (a2.size : Int) then ((intrusionref01_Value.f k (a2.extract 6 8)).bind fun t338 => (if 0 ≤ 6 then (if (a2.extract 0 6).size + 2 ≤ 9223372036854775807 then (if 8 ≤ t337 then (if t337 ≤ (a2.size : Int) then (if ((a2.extract 0 6) ++ (⟨#[0, 0]⟩ : ByteArray)).size + (a2.extract 8 (t337 : Int).toNat).size ≤ 9223372036854775807 then ((intrusionref13_Sum.f k b0 b1 b2 d0 d1 d2 (((a2.extract 0 6) ++ (⟨#[0, 0]⟩ : ByteArray)) ++ (a2.extract 8 (t337 : Int).toNat))).bind fun t339 => (if t338 = t339 then (intrusionref13_Decode.j0 k a2 t337 false) else (if t338 = 0 then (intrusionref13_Decode.j0 k a2 t337 b0) else (intrusionref13_Decode.j0 k a2 t337 true)))) else (none)) else (none)) else (none)) else (none)) else (none))) else (none)) else (none)))) = some (r1, r2, r3, r4) := H
    have A19 := As A190
    clear A190
    by_cases c20 : t337 < 8
    ·rw [if_pos c20] at H
     have c20b0 : decide (t337 < 8) = true := decide_eq_true c20
     clear c20
     simp only [Option.some.injEq, Prod.mk.injEq] at H
     obtain ⟨rfl, rfl, rfl, rfl⟩ := H
     go_enter Tryd.func84, Tryd.ntmps84
     go_wp2_with (first | ((with_reducible refine gate_dst (N := 3) rfl ?_); refine box_event rfl (N := 3) rfl (cs := #[.bool b0, .int .u64 b1, .int .u64 b2]) (t := 24) kG ?_; intro gb333 hg w21 hbox hb; have BK333 := As (hbox); have GW333 := As ((by rw [hg]; exact (below_size (kB HB.out)) : w.heap.size ≤ gb333)); have GE333 := As ((by rw [hg]; exact (below_size (kB HB.out)) : w.heap.size ≤ gb333)); replace HB := As (below_step (kB HB.out) hb); clear hb hbox hg) | ((with_reducible refine gate_dst (N := 4) rfl ?_); refine box_event rfl (N := 4) rfl (cs := #[.bool d0, .int .u64 d1, .int .u64 d2]) (t := 24) kG ?_; intro gb334 hg w22 hbox hb; have BK334 := As (hbox); have GW334 := As ((by rw [hg]; exact (below_size (kB1 HB.out GE333.out)) : w.heap.size ≤ gb334)); have GE334 := As ((by rw [hg]; exact (below_size (kB1 HB.out GE333.out)) : w.heap.size ≤ gb334)); replace HB := As (below_step (kB1 HB.out GE333.out) hb); have NB333_334 := As ((by rw [hg]; exact Nat.ne_of_lt (blk_lt (kb BK333.out)) : gb333 ≠ gb334)); have NB334_333 := As ((by rw [hg]; exact Nat.ne_of_gt (blk_lt (kb BK333.out)) : gb334 ≠ gb333)); replace BK333 := As (blk_below (kb BK333.out) hb); clear hb hbox hg) | ((with_reducible refine gate_dst (N := 6) rfl ?_); refine box_event rfl (N := 6) rfl (cs := #[.int .i64 0, .int .i64 0, .string (⟨#[]⟩ : ByteArray)]) (t := 85) kG ?_; intro gb335 hg w23 hbox hb; have BK335 := As (hbox); have GW335 := As ((by rw [hg]; exact (below_size (kB2 HB.out GE333.out GE334.out)) : w.heap.size ≤ gb335)); have GE335 := As ((by rw [hg]; exact (below_size (kB2 HB.out GE333.out GE334.out)) : w.heap.size ≤ gb335)); replace HB := As (below_step (kB2 HB.out GE333.out GE334.out) hb); have NB333_335 := As ((by rw [hg]; exact Nat.ne_of_lt (blk_lt (kb BK333.out)) : gb333 ≠ gb335)); have NB335_333 := As ((by rw [hg]; exact Nat.ne_of_gt (blk_lt (kb BK333.out)) : gb335 ≠ gb333)); replace BK333 := As (blk_below (kb BK333.out) hb); have NB334_335 := As ((by rw [hg]; exact Nat.ne_of_lt (blk_lt (kb BK334.out)) : gb334 ≠ gb335)); have NB335_334 := As ((by rw [hg]; exact Nat.ne_of_gt (blk_lt (kb BK334.out)) : gb335 ≠ gb334)); replace BK334 := As (blk_below (kb BK334.out) hb); clear hb hbox hg; have hnb24 := NB333_334.out; have hnc24 := NB334_333.out; have hnb25 := NB333_335.out; have hnc25 := NB335_333.out; have hcz26_0 := cells_3 BK333.out; have hfz26_0 := fun j_ => blk_frozen BK333.out j_; have hnb27 := NB334_335.out; have hnc27 := NB335_334.out; have hcz28_0 := cells_3 BK334.out; have hfz28_0 := fun j_ => blk_frozen BK334.out j_) | ((with_reducible refine gate_callee (f := 93) rfl ?_); refine goesL_ (some 12) rfl rfl Tryd.func93 (by kernel_rfl) rfl #[.agg #[.bool b0, .int .u64 b1, .int .u64 b2], .agg #[.bool d0, .int .u64 d1, .int .u64 d2]] rfl kA ?_; (with_reducible refine (intrusionref13_Fit.calls b0 b1 b2 d0 d1 d2 true _ A4.out).mono ?_); rintro e w29 ⟨rfl, hb⟩; refine ⟨_, rfl, ?_⟩; replace BK333 := As (blk_below (kb BK333.out) hb); replace BK334 := As (blk_below (kb BK334.out) hb); replace BK335 := As (blk_below (kb BK335.out) hb); replace HB := As (below_step (kB3 HB.out GE333.out GE334.out GE335.out) hb); (try clear hb)) | ((with_reducible refine gate_callee (f := 88) rfl ?_); refine goesL_ (some 21) rfl rfl Tryd.func88 (by kernel_rfl) rfl #[.string (a2.extract 4 6)] rfl kA ?_; (with_reducible refine (intrusionref01_Value.calls k (a2.extract 4 6) t337 _ A19.out).mono ?_); rintro e w' ⟨rfl, ⟨nd, rfl⟩⟩; refine ⟨_, rfl, ?_⟩; (try (rw [drewN_self w29]; generalize hq_ : World.drewN w29 _ = w29; have n0_ : Aside0 (w29.heap[gb333]? = some (.cells #[.bool b0, .int .u64 b1, .int .u64 b2] 24 (0, 0))) := ⟨by rw [← hq_]; exact (kb BK333.out)⟩; have n1_ : Aside0 (w29.heap[gb334]? = some (.cells #[.bool d0, .int .u64 d1, .int .u64 d2] 24 (0, 0))) := ⟨by rw [← hq_]; exact (kb BK334.out)⟩; have n2_ : Aside0 (w29.heap[gb335]? = some (.cells #[.int .i64 0, .int .i64 0, .string (⟨#[]⟩ : ByteArray)] 85 (0, 0))) := ⟨by rw [← hq_]; exact (kb BK335.out)⟩; have n3_ : Aside0 (Below w.heap.size w w29) := ⟨by rw [← hq_]; exact (kB3 HB.out GE333.out GE334.out GE335.out)⟩; clear BK333 BK334 BK335 HB hq_; have BK333 := n0_; have BK334 := n1_; have BK335 := n2_; have HB := n3_; clear n0_ n1_ n2_ n3_)); have hcz30_0 := cells_3 BK335.out; have hfz30_0 := fun j_ => blk_frozen BK335.out j_))
     refine bodyPost_ret (results_ct rfl _ _ gb335 85 #[.int .i64 0, .int .i64 0, .string (⟨#[]⟩ : ByteArray)] (0, 0) _ rfl (by refine kb ?_; exact blk_all_3 (kb BK335.out) (by rfl)) Tryd.underlying85 rfl (by kernel_rfl)) rfl ?_
     exact ⟨kE, by exact kB3 HB.out GE333.out GE334.out GE335.out⟩
    rw [if_neg c20] at H
    have c20b0 : decide (t337 < 8) = false := decide_eq_false c20
    clear c20
    by_cases c31 : t337 > (a2.size : Int)
    ·rw [if_pos c31] at H
     have c31b0 : decide ((a2.size : Int) < t337) = true := decide_eq_true c31
     clear c31
     simp only [Option.some.injEq, Prod.mk.injEq] at H
     obtain ⟨rfl, rfl, rfl, rfl⟩ := H
     go_enter Tryd.func84, Tryd.ntmps84
     go_wp2_with (first | ((with_reducible refine gate_dst (N := 3) rfl ?_); refine box_event rfl (N := 3) rfl (cs := #[.bool b0, .int .u64 b1, .int .u64 b2]) (t := 24) kG ?_; intro gb333 hg w32 hbox hb; have BK333 := As (hbox); have GW333 := As ((by rw [hg]; exact (below_size (kB HB.out)) : w.heap.size ≤ gb333)); have GE333 := As ((by rw [hg]; exact (below_size (kB HB.out)) : w.heap.size ≤ gb333)); replace HB := As (below_step (kB HB.out) hb); clear hb hbox hg) | ((with_reducible refine gate_dst (N := 4) rfl ?_); refine box_event rfl (N := 4) rfl (cs := #[.bool d0, .int .u64 d1, .int .u64 d2]) (t := 24) kG ?_; intro gb334 hg w33 hbox hb; have BK334 := As (hbox); have GW334 := As ((by rw [hg]; exact (below_size (kB1 HB.out GE333.out)) : w.heap.size ≤ gb334)); have GE334 := As ((by rw [hg]; exact (below_size (kB1 HB.out GE333.out)) : w.heap.size ≤ gb334)); replace HB := As (below_step (kB1 HB.out GE333.out) hb); have NB333_334 := As ((by rw [hg]; exact Nat.ne_of_lt (blk_lt (kb BK333.out)) : gb333 ≠ gb334)); have NB334_333 := As ((by rw [hg]; exact Nat.ne_of_gt (blk_lt (kb BK333.out)) : gb334 ≠ gb333)); replace BK333 := As (blk_below (kb BK333.out) hb); clear hb hbox hg) | ((with_reducible refine gate_dst (N := 6) rfl ?_); refine box_event rfl (N := 6) rfl (cs := #[.int .i64 0, .int .i64 0, .string (⟨#[]⟩ : ByteArray)]) (t := 85) kG ?_; intro gb335 hg w34 hbox hb; have BK335 := As (hbox); have GW335 := As ((by rw [hg]; exact (below_size (kB2 HB.out GE333.out GE334.out)) : w.heap.size ≤ gb335)); have GE335 := As ((by rw [hg]; exact (below_size (kB2 HB.out GE333.out GE334.out)) : w.heap.size ≤ gb335)); replace HB := As (below_step (kB2 HB.out GE333.out GE334.out) hb); have NB333_335 := As ((by rw [hg]; exact Nat.ne_of_lt (blk_lt (kb BK333.out)) : gb333 ≠ gb335)); have NB335_333 := As ((by rw [hg]; exact Nat.ne_of_gt (blk_lt (kb BK333.out)) : gb335 ≠ gb333)); replace BK333 := As (blk_below (kb BK333.out) hb); have NB334_335 := As ((by rw [hg]; exact Nat.ne_of_lt (blk_lt (kb BK334.out)) : gb334 ≠ gb335)); have NB335_334 := As ((by rw [hg]; exact Nat.ne_of_gt (blk_lt (kb BK334.out)) : gb335 ≠ gb334)); replace BK334 := As (blk_below (kb BK334.out) hb); clear hb hbox hg; have hnb35 := NB333_334.out; have hnc35 := NB334_333.out; have hnb36 := NB333_335.out; have hnc36 := NB335_333.out; have hcz37_0 := cells_3 BK333.out; have hfz37_0 := fun j_ => blk_frozen BK333.out j_; have hnb38 := NB334_335.out; have hnc38 := NB335_334.out; have hcz39_0 := cells_3 BK334.out; have hfz39_0 := fun j_ => blk_frozen BK334.out j_) | ((with_reducible refine gate_callee (f := 93) rfl ?_); refine goesL_ (some 12) rfl rfl Tryd.func93 (by kernel_rfl) rfl #[.agg #[.bool b0, .int .u64 b1, .int .u64 b2], .agg #[.bool d0, .int .u64 d1, .int .u64 d2]] rfl kA ?_; (with_reducible refine (intrusionref13_Fit.calls b0 b1 b2 d0 d1 d2 true _ A4.out).mono ?_); rintro e w40 ⟨rfl, hb⟩; refine ⟨_, rfl, ?_⟩; replace BK333 := As (blk_below (kb BK333.out) hb); replace BK334 := As (blk_below (kb BK334.out) hb); replace BK335 := As (blk_below (kb BK335.out) hb); replace HB := As (below_step (kB3 HB.out GE333.out GE334.out GE335.out) hb); (try clear hb)) | ((with_reducible refine gate_callee (f := 88) rfl ?_); refine goesL_ (some 21) rfl rfl Tryd.func88 (by kernel_rfl) rfl #[.string (a2.extract 4 6)] rfl kA ?_; (with_reducible refine (intrusionref01_Value.calls k (a2.extract 4 6) t337 _ A19.out).mono ?_); rintro e w' ⟨rfl, ⟨nd, rfl⟩⟩; refine ⟨_, rfl, ?_⟩; (try (rw [drewN_self w40]; generalize hq_ : World.drewN w40 _ = w40; have n0_ : Aside0 (w40.heap[gb333]? = some (.cells #[.bool b0, .int .u64 b1, .int .u64 b2] 24 (0, 0))) := ⟨by rw [← hq_]; exact (kb BK333.out)⟩; have n1_ : Aside0 (w40.heap[gb334]? = some (.cells #[.bool d0, .int .u64 d1, .int .u64 d2] 24 (0, 0))) := ⟨by rw [← hq_]; exact (kb BK334.out)⟩; have n2_ : Aside0 (w40.heap[gb335]? = some (.cells #[.int .i64 0, .int .i64 0, .string (⟨#[]⟩ : ByteArray)] 85 (0, 0))) := ⟨by rw [← hq_]; exact (kb BK335.out)⟩; have n3_ : Aside0 (Below w.heap.size w w40) := ⟨by rw [← hq_]; exact (kB3 HB.out GE333.out GE334.out GE335.out)⟩; clear BK333 BK334 BK335 HB hq_; have BK333 := n0_; have BK334 := n1_; have BK335 := n2_; have HB := n3_; clear n0_ n1_ n2_ n3_)); have hcz41_0 := cells_3 BK335.out; have hfz41_0 := fun j_ => blk_frozen BK335.out j_))
     refine bodyPost_ret (results_ct rfl _ _ gb335 85 #[.int .i64 0, .int .i64 0, .string (⟨#[]⟩ : ByteArray)] (0, 0) _ rfl (by refine kb ?_; exact blk_all_3 (kb BK335.out) (by rfl)) Tryd.underlying85 rfl (by kernel_rfl)) rfl ?_
     exact ⟨kE, by exact kB3 HB.out GE333.out GE334.out GE335.out⟩
    rw [if_neg c31] at H
    have c31b0 : decide ((a2.size : Int) < t337) = false := decide_eq_false c31
    clear c31
    by_cases c42 : 6 ≤ 8
    ·rw [if_pos c42] at H
     have c42b0 := eq_true c42
     have c42b1 : decide (6 ≤ 8) = true := decide_eq_true c42
     clear c42
     by_cases c43 : 8 ≤ (a2.size : Int)
     ·rw [if_pos c43] at H
      have c43b0 := eq_true c43
      have c43b1 : decide (8 ≤ (a2.size : Int)) = true := decide_eq_true c43
      clear c43
      replace H := Option.bind_eq_some_iff.mp H
      obtain ⟨t338, A440, H⟩ := H
      replace H : (if 0 ≤ 6 then (if (a2.extract 0 6).size + 2 ≤ 9223372036854775807 then (if 8 ≤ t337 then (if t337 ≤ (a2.size : Int) then (if ((a2.extract 0 6) ++ (⟨#[0, 0]⟩ : ByteArray)).size + (a2.extract 8 (t337 : Int).toNat).size ≤ 9223372036854775807 then ((intrusionref13_Sum.f k b0 b1 b2 d0 d1 d2 (((a2.extract 0 6) ++ (⟨#[0, 0]⟩ : ByteArray)) ++ (a2.extract 8 (t337 : Int).toNat))).bind fun t339 => (if t338 = t339 then (intrusionref13_Decode.j0 k a2 t337 false) else (if t338 = 0 then (intrusionref13_Decode.j0 k a2 t337 b0) else (intrusionref13_Decode.j0 k a2 t337 true)))) else (none)) else (none)) else (none)) else (none)) else (none)) = some (r1, r2, r3, r4) := H
      have A44 := As A440
      clear A440
      have HC45 := As H
      clear H
      go_enter Tryd.func84, Tryd.ntmps84
      go_upto_region 11 with (first | ((with_reducible refine gate_dst (N := 3) rfl ?_); refine box_event rfl (N := 3) rfl (cs := #[.bool b0, .int .u64 b1, .int .u64 b2]) (t := 24) kG ?_; intro gb333 hg w46 hbox hb; have BK333 := As (hbox); have GW333 := As ((by rw [hg]; exact (below_size (kB HB.out)) : w.heap.size ≤ gb333)); have GE333 := As ((by rw [hg]; exact (below_size (kB HB.out)) : w.heap.size ≤ gb333)); replace HB := As (below_step (kB HB.out) hb); clear hb hbox hg) | ((with_reducible refine gate_dst (N := 4) rfl ?_); refine box_event rfl (N := 4) rfl (cs := #[.bool d0, .int .u64 d1, .int .u64 d2]) (t := 24) kG ?_; intro gb334 hg w47 hbox hb; have BK334 := As (hbox); have GW334 := As ((by rw [hg]; exact (below_size (kB1 HB.out GE333.out)) : w.heap.size ≤ gb334)); have GE334 := As ((by rw [hg]; exact (below_size (kB1 HB.out GE333.out)) : w.heap.size ≤ gb334)); replace HB := As (below_step (kB1 HB.out GE333.out) hb); have NB333_334 := As ((by rw [hg]; exact Nat.ne_of_lt (blk_lt (kb BK333.out)) : gb333 ≠ gb334)); have NB334_333 := As ((by rw [hg]; exact Nat.ne_of_gt (blk_lt (kb BK333.out)) : gb334 ≠ gb333)); replace BK333 := As (blk_below (kb BK333.out) hb); clear hb hbox hg) | ((with_reducible refine gate_dst (N := 6) rfl ?_); refine box_event rfl (N := 6) rfl (cs := #[.int .i64 0, .int .i64 0, .string (⟨#[]⟩ : ByteArray)]) (t := 85) kG ?_; intro gb335 hg w48 hbox hb; have BK335 := As (hbox); have GW335 := As ((by rw [hg]; exact (below_size (kB2 HB.out GE333.out GE334.out)) : w.heap.size ≤ gb335)); have GE335 := As ((by rw [hg]; exact (below_size (kB2 HB.out GE333.out GE334.out)) : w.heap.size ≤ gb335)); replace HB := As (below_step (kB2 HB.out GE333.out GE334.out) hb); have NB333_335 := As ((by rw [hg]; exact Nat.ne_of_lt (blk_lt (kb BK333.out)) : gb333 ≠ gb335)); have NB335_333 := As ((by rw [hg]; exact Nat.ne_of_gt (blk_lt (kb BK333.out)) : gb335 ≠ gb333)); replace BK333 := As (blk_below (kb BK333.out) hb); have NB334_335 := As ((by rw [hg]; exact Nat.ne_of_lt (blk_lt (kb BK334.out)) : gb334 ≠ gb335)); have NB335_334 := As ((by rw [hg]; exact Nat.ne_of_gt (blk_lt (kb BK334.out)) : gb335 ≠ gb334)); replace BK334 := As (blk_below (kb BK334.out) hb); clear hb hbox hg; have hnb49 := NB333_334.out; have hnc49 := NB334_333.out; have hnb50 := NB333_335.out; have hnc50 := NB335_333.out; have hcz51_0 := cells_3 BK333.out; have hfz51_0 := fun j_ => blk_frozen BK333.out j_; have hnb52 := NB334_335.out; have hnc52 := NB335_334.out; have hcz53_0 := cells_3 BK334.out; have hfz53_0 := fun j_ => blk_frozen BK334.out j_) | ((with_reducible refine gate_callee (f := 93) rfl ?_); refine goesL_ (some 12) rfl rfl Tryd.func93 (by kernel_rfl) rfl #[.agg #[.bool b0, .int .u64 b1, .int .u64 b2], .agg #[.bool d0, .int .u64 d1, .int .u64 d2]] rfl kA ?_; (with_reducible refine (intrusionref13_Fit.calls b0 b1 b2 d0 d1 d2 true _ A4.out).mono ?_); rintro e w54 ⟨rfl, hb⟩; refine ⟨_, rfl, ?_⟩; replace BK333 := As (blk_below (kb BK333.out) hb); replace BK334 := As (blk_below (kb BK334.out) hb); replace BK335 := As (blk_below (kb BK335.out) hb); replace HB := As (below_step (kB3 HB.out GE333.out GE334.out GE335.out) hb); (try clear hb)) | ((with_reducible refine gate_callee (f := 88) rfl ?_); refine goesL_ (some 21) rfl rfl Tryd.func88 (by kernel_rfl) rfl #[.string (a2.extract 4 6)] rfl kA ?_; (with_reducible refine (intrusionref01_Value.calls k (a2.extract 4 6) t337 _ A19.out).mono ?_); rintro e w' ⟨rfl, ⟨nd, rfl⟩⟩; refine ⟨_, rfl, ?_⟩; (try (rw [drewN_self w54]; generalize hq_ : World.drewN w54 _ = w54; have n0_ : Aside0 (w54.heap[gb333]? = some (.cells #[.bool b0, .int .u64 b1, .int .u64 b2] 24 (0, 0))) := ⟨by rw [← hq_]; exact (kb BK333.out)⟩; have n1_ : Aside0 (w54.heap[gb334]? = some (.cells #[.bool d0, .int .u64 d1, .int .u64 d2] 24 (0, 0))) := ⟨by rw [← hq_]; exact (kb BK334.out)⟩; have n2_ : Aside0 (w54.heap[gb335]? = some (.cells #[.int .i64 0, .int .i64 0, .string (⟨#[]⟩ : ByteArray)] 85 (0, 0))) := ⟨by rw [← hq_]; exact (kb BK335.out)⟩; have n3_ : Aside0 (Below w.heap.size w w54) := ⟨by rw [← hq_]; exact (kB3 HB.out GE333.out GE334.out GE335.out)⟩; clear BK333 BK334 BK335 HB hq_; have BK333 := n0_; have BK334 := n1_; have BK335 := n2_; have HB := n3_; clear n0_ n1_ n2_ n3_))) | ((with_reducible refine gate_callee (f := 88) rfl ?_); refine goesL_ (some 32) rfl rfl Tryd.func88 (by kernel_rfl) rfl #[.string (a2.extract 6 8)] rfl kA ?_; (with_reducible refine (intrusionref01_Value.calls k (a2.extract 6 8) t338 _ A44.out).mono ?_); rintro e w' ⟨rfl, ⟨nd, rfl⟩⟩; refine ⟨_, rfl, ?_⟩; (try (rw [drewN_self w54]; generalize hq_ : World.drewN w54 _ = w54; have n0_ : Aside0 (w54.heap[gb333]? = some (.cells #[.bool b0, .int .u64 b1, .int .u64 b2] 24 (0, 0))) := ⟨by rw [← hq_]; exact (kb BK333.out)⟩; have n1_ : Aside0 (w54.heap[gb334]? = some (.cells #[.bool d0, .int .u64 d1, .int .u64 d2] 24 (0, 0))) := ⟨by rw [← hq_]; exact (kb BK334.out)⟩; have n2_ : Aside0 (w54.heap[gb335]? = some (.cells #[.int .i64 0, .int .i64 0, .string (⟨#[]⟩ : ByteArray)] 85 (0, 0))) := ⟨by rw [← hq_]; exact (kb BK335.out)⟩; have n3_ : Aside0 (Below w.heap.size w w54) := ⟨by rw [← hq_]; exact (kB3 HB.out GE333.out GE334.out GE335.out)⟩; clear BK333 BK334 BK335 HB hq_; have BK333 := n0_; have BK334 := n1_; have BK335 := n2_; have HB := n3_; clear n0_ n1_ n2_ n3_))))
      (try simp only [Act.put, sA, sZ, sS])
      go_cut [52] (fun v52 wc => ∃ (kq : Nat) (x52_44 : Bool), v52 = .bool x52_44 ∧ Aside0 (intrusionref13_Decode.j0 kq a2 t337 x52_44 = some (r1, r2, r3, r4)) ∧ Aside0 (kq ≤ k) ∧ Aside0 (wc.heap[gb333]? = some (.cells #[.bool b0, .int .u64 b1, .int .u64 b2] 24 (0, 0))) ∧ Aside0 (wc.heap[gb334]? = some (.cells #[.bool d0, .int .u64 d1, .int .u64 d2] 24 (0, 0))) ∧ Aside0 (wc.heap[gb335]? = some (.cells #[.int .i64 0, .int .i64 0, .string (⟨#[]⟩ : ByteArray)] 85 (0, 0))) ∧ Aside0 (Below w.heap.size w wc))
      case first =>
       have H := HC45.out
       clear HC45
       by_cases c55 : 0 ≤ 6
       ·rw [if_pos c55] at H
        have c55b0 := eq_true c55
        have c55b1 : decide (0 ≤ 6) = true := decide_eq_true c55
        clear c55
        have c56b0 := eq_true (of_decide_eq_true (by first | (with_reducible assumption) | assumption) : 6 ≤ (a2.size : Int))
        by_cases c57 : (a2.extract 0 6).size + 2 ≤ 9223372036854775807
        ·rw [if_pos c57] at H
         have c57b0 := eq_true c57
         have c57b1 : decide ((a2.extract 0 6).size + 2 ≤ 9223372036854775807) = true := decide_eq_true c57
         (try (have c57s0 : (9223372036854775807 < (min 6 a2.size) + 2) = False := by have h_ := c57; simp only [ByteArray.size_append, ByteArray.size_extract] at h_; exact eq_false (by first | omega | (omega))))
         (try (have c57s1 : (9223372036854775807 < ((min 6 a2.size)) + 2) = False := by have h_ := c57; simp only [ByteArray.size_append, ByteArray.size_extract] at h_; exact eq_false (by first | omega | (omega))))
         (try (have c57s2 : (9223372036854775807 < (6) + 2) = False := by have h_ := c57; simp only [ByteArray.size_append, ByteArray.size_extract] at h_; exact eq_false (by first | omega | (omega))))
         (try (have c57s3 : (9223372036854775807 < 6 + 2) = False := by have h_ := c57; simp only [ByteArray.size_append, ByteArray.size_extract] at h_; exact eq_false (by first | omega | (omega))))
         (try (have c57s4 : ((6) + 2 ≤ 9223372036854775807) = True := by have h_ := c57; simp only [ByteArray.size_append, Int.natCast_add, Int.toNat_natCast] at h_; first | exact eq_true h_ | exact eq_true (by omega)))
         (try (have c57s5 : decide ((6) + 2 ≤ 9223372036854775807) = true := by have h_ := c57; first | (simp only [ByteArray.size_append, Int.toNat_natCast] at h_; first | exact beq_iff_eq.mpr h_ | exact beq_eq_false_iff_ne.mpr h_ | exact bne_iff_ne.mpr h_ | exact bne_eq_false_iff_eq.mpr h_ | (rw [beq_iff_eq.mpr h_]; rfl) | (rw [beq_eq_false_iff_ne.mpr h_]; rfl)) | (simp only [ByteArray.size_append, Int.natCast_add, Int.toNat_natCast] at h_ ⊢; first | exact h_ | simpa using h_ | simp [h_] | omega) | (simp only [ByteArray.size_append] at h_; simp at h_ ⊢; omega) | (simp only [ByteArray.size_append, Int.natCast_add, Int.toNat_natCast] at h_; simpa using h_)))
         try have c57b2 : (9223372036854775807 < (a2.extract 0 6).size + 2) = False := eq_false (Nat.not_lt.2 c57)
         by_cases c58 : 8 ≤ t337
         ·rw [if_pos c58] at H
          have c58b0 := eq_true c58
          have c58b1 : decide (8 ≤ t337) = true := decide_eq_true c58
          clear c58
          by_cases c59 : t337 ≤ (a2.size : Int)
          ·rw [if_pos c59] at H
           have c59b0 := eq_true c59
           have c59b1 : decide (t337 ≤ (a2.size : Int)) = true := decide_eq_true c59
           clear c59
           by_cases c60 : ((a2.extract 0 6) ++ (⟨#[0, 0]⟩ : ByteArray)).size + (a2.extract 8 (t337 : Int).toNat).size ≤ 9223372036854775807
           ·rw [if_pos c60] at H
            have c60b0 := eq_true c60
            have c60b1 : decide (((a2.extract 0 6) ++ (⟨#[0, 0]⟩ : ByteArray)).size + (a2.extract 8 (t337 : Int).toNat).size ≤ 9223372036854775807) = true := decide_eq_true c60
            (try (have c60s0 : (9223372036854775807 < ((min 6 a2.size) + 2) + (((t337 : Int).toNat - 8))) = False := by have h_ := c60; have z0_ : (⟨#[0, 0]⟩ : ByteArray).size = 2 := rfl; simp only [ByteArray.size_append, ByteArray.size_extract] at h_; exact eq_false (by first | omega | (have h2_1 : ((t337 : Int) : Int) ≤ (a2.size : Int) := of_decide_eq_true (by first | (with_reducible assumption) | assumption); have h2_2 : ((t337 : Int) : Int) ≤ (a2.size : Int) := of_decide_eq_true (by first | (with_reducible assumption) | assumption); omega))))
            (try (have c60s1 : (9223372036854775807 < (min 6 a2.size + 2) + (((t337 : Int).toNat - 8))) = False := by have h_ := c60; have z0_ : (⟨#[0, 0]⟩ : ByteArray).size = 2 := rfl; simp only [ByteArray.size_append, ByteArray.size_extract] at h_; exact eq_false (by first | omega | (have h2_1 : ((t337 : Int) : Int) ≤ (a2.size : Int) := of_decide_eq_true (by first | (with_reducible assumption) | assumption); have h2_2 : ((t337 : Int) : Int) ≤ (a2.size : Int) := of_decide_eq_true (by first | (with_reducible assumption) | assumption); omega))))
            (try (have c60s2 : (9223372036854775807 < (6 + 2) + (((t337 : Int).toNat - 8))) = False := by have h_ := c60; have z0_ : (⟨#[0, 0]⟩ : ByteArray).size = 2 := rfl; simp only [ByteArray.size_append, ByteArray.size_extract] at h_; exact eq_false (by first | omega | (have h2_1 : ((t337 : Int) : Int) ≤ (a2.size : Int) := of_decide_eq_true (by first | (with_reducible assumption) | assumption); have h2_2 : ((t337 : Int) : Int) ≤ (a2.size : Int) := of_decide_eq_true (by first | (with_reducible assumption) | assumption); omega))))
            (try (have c60s3 : ((6 + 2) + (((t337 : Int).toNat - 8)) ≤ 9223372036854775807) = True := by have h_ := c60; simp only [ByteArray.size_append, Int.natCast_add, Int.toNat_natCast] at h_; first | exact eq_true h_ | exact eq_true (by omega)))
            (try (have c60s4 : decide ((6 + 2) + (((t337 : Int).toNat - 8)) ≤ 9223372036854775807) = true := by have h_ := c60; first | (simp only [ByteArray.size_append, Int.toNat_natCast] at h_; first | exact beq_iff_eq.mpr h_ | exact beq_eq_false_iff_ne.mpr h_ | exact bne_iff_ne.mpr h_ | exact bne_eq_false_iff_eq.mpr h_ | (rw [beq_iff_eq.mpr h_]; rfl) | (rw [beq_eq_false_iff_ne.mpr h_]; rfl)) | (simp only [ByteArray.size_append, Int.natCast_add, Int.toNat_natCast] at h_ ⊢; first | exact h_ | simpa using h_ | simp [h_] | omega) | (simp only [ByteArray.size_append] at h_; simp at h_ ⊢; omega) | (simp only [ByteArray.size_append, Int.natCast_add, Int.toNat_natCast] at h_; simpa using h_)))
            try have c60b2 : (9223372036854775807 < ((a2.extract 0 6) ++ (⟨#[0, 0]⟩ : ByteArray)).size + (a2.extract 8 (t337 : Int).toNat).size) = False := eq_false (Nat.not_lt.2 c60)
            replace H := Option.bind_eq_some_iff.mp H
            obtain ⟨t339, A610, H⟩ := H
            replace H : (if t338 = t339 then (intrusionref13_Decode.j0 k a2 t337 false) else (if t338 = 0 then (intrusionref13_Decode.j0 k a2 t337 b0) else (intrusionref13_Decode.j0 k a2 t337 true))) = some (r1, r2, r3, r4) := H
            have A61 := As A610
            clear A610
            by_cases c62 : t338 = t339
            ·rw [if_pos c62] at H
             have c62b0 : (t338 == t339) = true := beq_iff_eq.mpr c62
             have c62b1 : (t338 != t339) = false := bne_eq_false_iff_eq.mpr c62
             clear c62
             (first | rw [c62b0] | (simp only [i64_w, i32_w]; rw [c62b0]) | skip)
             have H' := As H
             clear H
             try go_wp2
             replace BK333 := As (blk_drew BK333.out)
             replace BK334 := As (blk_drew BK334.out)
             replace BK335 := As (blk_drew BK335.out)
             replace HB := As (below_drew1 HB.out)
             refine start_ (n := 20) (S := fun w' => w'.cell? ⟨gb333, 0, none⟩ = some (.bool b0) ∧ w'.cell? ⟨gb333, 1, none⟩ = some (.int .u64 b1) ∧ w'.cell? ⟨gb333, 2, none⟩ = some (.int .u64 b2) ∧ w'.cell? ⟨gb334, 0, none⟩ = some (.bool d0) ∧ w'.cell? ⟨gb334, 1, none⟩ = some (.int .u64 d1) ∧ w'.cell? ⟨gb334, 2, none⟩ = some (.int .u64 d2)) (ds := []) #[O, O, O, O, O, O, O, O, O, O, O, O, O, O, O, O, O, O, O, O] (by kernel_rfl) rfl rfl ⟨kC BK333.out 0, kC BK333.out 1, kC BK333.out 2, kC BK334.out 0, kC BK334.out 1, kC BK334.out 2⟩ (fun hHeld => ?_); refine with_tabW intrusionref13_Decode.tab11 intrusionref13_Decode.bits11 (fun HT_ HW_ => ?_)
             generalize w54.drew = w63 at BK333 BK334 BK335 HB hHeld ⊢
             refine kP 0 33 #[I, O, O, O, O, O, O, O, O, O, O, O, O, O, O, O, O, O, O, O] ?_ (any_of HT_.out (by kernel_rfl))
             refine kP 3 36 #[I, O, O, I, O, O, O, O, O, O, O, O, O, O, O, O, O, O, O, O] ?_ (any_of HT_.out (by kernel_rfl))
             refine kP 4 37 #[I, O, O, I, I, O, O, O, O, O, O, O, O, O, O, O, O, O, O, O] ?_ (any_of HT_.out (by kernel_rfl))
             refine kP 5 38 #[I, O, O, I, I, I, O, O, O, O, O, O, O, O, O, O, O, O, O, O] ?_ (any_of HT_.out (by kernel_rfl))
             refine kP 6 39 #[I, O, O, I, I, I, I, O, O, O, O, O, O, O, O, O, O, O, O, O] ?_ (any_of HT_.out (by kernel_rfl))
             refine kP 7 40 #[I, O, O, I, I, I, I, I, O, O, O, O, O, O, O, O, O, O, O, O] ?_ (any_of HT_.out (by kernel_rfl))
             refine kP 8 41 #[I, O, O, I, I, I, I, I, I, O, O, O, O, O, O, O, O, O, O, O] ?_ (any_of HT_.out (by kernel_rfl))
             refine kP 9 42 #[I, O, O, I, I, I, I, I, I, I, O, O, O, O, O, O, O, O, O, O] ?_ (any_of HT_.out (by kernel_rfl))
             refine take_ (i := 1) (N := some 34) (v := ?_) (a' := ?_) #[I, I, O, I, I, I, I, I, I, I, O, O, O, O, O, O, O, O, O, O] rfl rfl (take_ofW HT_.out HW_.out (by kernel_rfl)) (fun _ _ _ h => h) (Or.inl ⟨by rfl, ?_⟩) hHeld ?_ ?_
             rotate_left
             ·rintro w' ⟨s0, s1, s2, s3, s4, s5⟩
              go_simp
              with_reducible rfl
             rotate_left
             ·simp only [Act.put, sA, sZ, sS, i64_w, i32_w]
              rfl
             refine take_ (i := 2) (N := some 35) (v := ?_) (a' := ?_) #[I, I, I, I, I, I, I, I, I, I, O, O, O, O, O, O, O, O, O, O] rfl rfl (take_ofW HT_.out HW_.out (by kernel_rfl)) (fun _ _ _ h => h) (Or.inl ⟨by rfl, ?_⟩) hHeld ?_ ?_
             rotate_left
             ·rintro w' ⟨s0, s1, s2, s3, s4, s5⟩
              go_simp
              with_reducible rfl
             rotate_left
             ·simp only [Act.put, sA, sZ, sS, i64_w, i32_w]
              rfl
             refine one_ (i := 10) (N := some 43) #[I, I, I, I, I, I, I, I, I, I, I, O, O, O, O, O, O, O, O, O] rfl rfl (one_of HT_.out (by kernel_rfl)) (by decide) (fun K hK => ?_)
             refine goes_ Tryd.func94 (by kernel_rfl) rfl #[.agg #[.bool b0, .int .u64 b1, .int .u64 b2], .agg #[.bool d0, .int .u64 d1, .int .u64 d2], .string (((a2.extract 0 6) ++ (⟨#[0, 0]⟩ : ByteArray)) ++ (a2.extract 8 (t337 : Int).toNat))] (by rfl) rfl rfl kA ?_
             with_reducible refine (intrusionref13_Sum.calls k b0 b1 b2 d0 d1 d2 (((a2.extract 0 6) ++ (⟨#[0, 0]⟩ : ByteArray)) ++ (a2.extract 8 (t337 : Int).toNat)) t339 _ A61.out).mono ?_
             rintro e w64 ⟨rfl, hb⟩
             refine ⟨_, rfl, ?_⟩
             replace BK333 := As (blk_below (kb BK333.out) hb)
             replace BK334 := As (blk_below (kb BK334.out) hb)
             replace BK335 := As (blk_below (kb BK335.out) hb)
             replace HB := As (below_step (kB3 HB.out GE333.out GE334.out GE335.out) hb)
             (try clear hb)
             (try clear hb2)
             (try clear hk)
             (try clear hi)
             refine hK.out _ _ ⟨kC BK333.out 0, kC BK333.out 1, kC BK333.out 2, kC BK334.out 0, kC BK334.out 1, kC BK334.out 2⟩ (fun hHeld => ?_)
             clear hK K
             refine norm_ (a' := ?_) ?_ ?_
             rotate_left
             ·show Act.put _ (some 43) _ = _
              simp only [Act.put, sA, sZ, sS, i64_w, i32_w]
              rfl
             refine kP 11 44 #[I, I, I, I, I, I, I, I, I, I, I, I, O, O, O, O, O, O, O, O] ?_ (any_of HT_.out (by kernel_rfl))
             refine kP 12 45 #[I, I, I, I, I, I, I, I, I, I, I, I, I, O, O, O, O, O, O, O] ?_ (any_of HT_.out (by kernel_rfl))
             refine pure_ (i := 13) (N := some 46) (v := undef) (a' := ?_) #[I, I, I, I, I, I, I, I, I, I, I, I, I, I, O, O, O, O, O, O] rfl rfl (any_of HT_.out (by kernel_rfl)) (fun _ _ _ h => h) (Or.inr ⟨by rfl, rfl⟩) ?_ ?_
             rotate_left
             ·simp only [Act.put, sA, sZ, sS, i64_w, i32_w]
              rfl
             refine pure_ (i := 14) (N := some 47) (v := undef) (a' := ?_) #[I, I, I, I, I, I, I, I, I, I, I, I, I, I, I, O, O, O, O, O] rfl rfl (any_of HT_.out (by kernel_rfl)) (fun _ _ _ h => h) (Or.inr ⟨by rfl, rfl⟩) ?_ ?_
             rotate_left
             ·simp only [Act.put, sA, sZ, sS, i64_w, i32_w]
              rfl
             refine pure_ (i := 15) (N := some 48) (v := undef) (a' := ?_) #[I, I, I, I, I, I, I, I, I, I, I, I, I, I, I, I, O, O, O, O] rfl rfl (any_of HT_.out (by kernel_rfl)) (fun _ _ _ h => h) (Or.inr ⟨by rfl, rfl⟩) ?_ ?_
             rotate_left
             ·simp only [Act.put, sA, sZ, sS, i64_w, i32_w]
              rfl
             refine pure_ (i := 16) (N := some 49) (v := undef) (a' := ?_) #[I, I, I, I, I, I, I, I, I, I, I, I, I, I, I, I, I, O, O, O] rfl rfl (any_of HT_.out (by kernel_rfl)) (fun _ _ _ h => h) (Or.inr ⟨by rfl, rfl⟩) ?_ ?_
             rotate_left
             ·simp only [Act.put, sA, sZ, sS, i64_w, i32_w]
              rfl
             refine pure_ (i := 17) (N := some 50) (v := undef) (a' := ?_) #[I, I, I, I, I, I, I, I, I, I, I, I, I, I, I, I, I, I, O, O] rfl rfl (any_of HT_.out (by kernel_rfl)) (fun _ _ _ h => h) (Or.inr ⟨by rfl, rfl⟩) ?_ ?_
             rotate_left
             ·simp only [Act.put, sA, sZ, sS, i64_w, i32_w]
              rfl
             refine pure_ (i := 18) (N := some 51) (v := undef) (a' := ?_) #[I, I, I, I, I, I, I, I, I, I, I, I, I, I, I, I, I, I, I, O] rfl rfl (any_of HT_.out (by kernel_rfl)) (fun _ _ _ h => h) (Or.inr ⟨by rfl, rfl⟩) ?_ ?_
             rotate_left
             ·simp only [Act.put, sA, sZ, sS, i64_w, i32_w]
              rfl
             refine kP 19 52 #[I, I, I, I, I, I, I, I, I, I, I, I, I, I, I, I, I, I, I, I] ?_ (any_of HT_.out (by kernel_rfl))
             refine done_ (done_of HT_.out (by kernel_rfl)) ?_
             try go_wp2
             go_meet
             case rel => exact ⟨_, (false), kS, H', ⟨by first | omega | exact Nat.le_refl _⟩, ⟨kb BK333.out⟩, ⟨kb BK334.out⟩, ⟨kb BK335.out⟩, ⟨kB3 HB.out GE333.out GE334.out GE335.out⟩⟩
            rw [if_neg c62] at H
            have c62b0 : (t338 == t339) = false := beq_eq_false_iff_ne.mpr c62
            have c62b1 : (t338 != t339) = true := bne_iff_ne.mpr c62
            (first | rw [c62b0] | (simp only [i64_w, i32_w]; rw [c62b0]) | skip)
            by_cases c65 : t338 = 0
            ·rw [if_pos c65] at H
             have c65b0 : (t338 == 0) = true := beq_iff_eq.mpr c65
             have c65b1 : (t338 != 0) = false := bne_eq_false_iff_eq.mpr c65
             clear c65
             have H' := As H
             clear H
             try go_wp2
             replace BK333 := As (blk_drew BK333.out)
             replace BK334 := As (blk_drew BK334.out)
             replace BK335 := As (blk_drew BK335.out)
             replace HB := As (below_drew1 HB.out)
             refine start_ (n := 20) (S := fun w' => w'.cell? ⟨gb333, 0, none⟩ = some (.bool b0) ∧ w'.cell? ⟨gb333, 1, none⟩ = some (.int .u64 b1) ∧ w'.cell? ⟨gb333, 2, none⟩ = some (.int .u64 b2) ∧ w'.cell? ⟨gb334, 0, none⟩ = some (.bool d0) ∧ w'.cell? ⟨gb334, 1, none⟩ = some (.int .u64 d1) ∧ w'.cell? ⟨gb334, 2, none⟩ = some (.int .u64 d2)) (ds := []) #[O, O, O, O, O, O, O, O, O, O, O, O, O, O, O, O, O, O, O, O] (by kernel_rfl) rfl rfl ⟨kC BK333.out 0, kC BK333.out 1, kC BK333.out 2, kC BK334.out 0, kC BK334.out 1, kC BK334.out 2⟩ (fun hHeld => ?_); refine with_tabW intrusionref13_Decode.tab11 intrusionref13_Decode.bits11 (fun HT_ HW_ => ?_)
             generalize w54.drew = w66 at BK333 BK334 BK335 HB hHeld ⊢
             refine kP 0 33 #[I, O, O, O, O, O, O, O, O, O, O, O, O, O, O, O, O, O, O, O] ?_ (any_of HT_.out (by kernel_rfl))
             refine kP 3 36 #[I, O, O, I, O, O, O, O, O, O, O, O, O, O, O, O, O, O, O, O] ?_ (any_of HT_.out (by kernel_rfl))
             refine kP 4 37 #[I, O, O, I, I, O, O, O, O, O, O, O, O, O, O, O, O, O, O, O] ?_ (any_of HT_.out (by kernel_rfl))
             refine kP 5 38 #[I, O, O, I, I, I, O, O, O, O, O, O, O, O, O, O, O, O, O, O] ?_ (any_of HT_.out (by kernel_rfl))
             refine kP 6 39 #[I, O, O, I, I, I, I, O, O, O, O, O, O, O, O, O, O, O, O, O] ?_ (any_of HT_.out (by kernel_rfl))
             refine kP 7 40 #[I, O, O, I, I, I, I, I, O, O, O, O, O, O, O, O, O, O, O, O] ?_ (any_of HT_.out (by kernel_rfl))
             refine kP 8 41 #[I, O, O, I, I, I, I, I, I, O, O, O, O, O, O, O, O, O, O, O] ?_ (any_of HT_.out (by kernel_rfl))
             refine kP 9 42 #[I, O, O, I, I, I, I, I, I, I, O, O, O, O, O, O, O, O, O, O] ?_ (any_of HT_.out (by kernel_rfl))
             refine take_ (i := 1) (N := some 34) (v := ?_) (a' := ?_) #[I, I, O, I, I, I, I, I, I, I, O, O, O, O, O, O, O, O, O, O] rfl rfl (take_ofW HT_.out HW_.out (by kernel_rfl)) (fun _ _ _ h => h) (Or.inl ⟨by rfl, ?_⟩) hHeld ?_ ?_
             rotate_left
             ·rintro w' ⟨s0, s1, s2, s3, s4, s5⟩
              go_simp
              with_reducible rfl
             rotate_left
             ·simp only [Act.put, sA, sZ, sS, i64_w, i32_w]
              rfl
             refine take_ (i := 2) (N := some 35) (v := ?_) (a' := ?_) #[I, I, I, I, I, I, I, I, I, I, O, O, O, O, O, O, O, O, O, O] rfl rfl (take_ofW HT_.out HW_.out (by kernel_rfl)) (fun _ _ _ h => h) (Or.inl ⟨by rfl, ?_⟩) hHeld ?_ ?_
             rotate_left
             ·rintro w' ⟨s0, s1, s2, s3, s4, s5⟩
              go_simp
              with_reducible rfl
             rotate_left
             ·simp only [Act.put, sA, sZ, sS, i64_w, i32_w]
              rfl
             refine one_ (i := 10) (N := some 43) #[I, I, I, I, I, I, I, I, I, I, I, O, O, O, O, O, O, O, O, O] rfl rfl (one_of HT_.out (by kernel_rfl)) (by decide) (fun K hK => ?_)
             refine goes_ Tryd.func94 (by kernel_rfl) rfl #[.agg #[.bool b0, .int .u64 b1, .int .u64 b2], .agg #[.bool d0, .int .u64 d1, .int .u64 d2], .string (((a2.extract 0 6) ++ (⟨#[0, 0]⟩ : ByteArray)) ++ (a2.extract 8 (t337 : Int).toNat))] (by rfl) rfl rfl kA ?_
             with_reducible refine (intrusionref13_Sum.calls k b0 b1 b2 d0 d1 d2 (((a2.extract 0 6) ++ (⟨#[0, 0]⟩ : ByteArray)) ++ (a2.extract 8 (t337 : Int).toNat)) t339 _ A61.out).mono ?_
             rintro e w67 ⟨rfl, hb⟩
             refine ⟨_, rfl, ?_⟩
             replace BK333 := As (blk_below (kb BK333.out) hb)
             replace BK334 := As (blk_below (kb BK334.out) hb)
             replace BK335 := As (blk_below (kb BK335.out) hb)
             replace HB := As (below_step (kB3 HB.out GE333.out GE334.out GE335.out) hb)
             (try clear hb)
             (try clear hb2)
             (try clear hk)
             (try clear hi)
             refine hK.out _ _ ⟨kC BK333.out 0, kC BK333.out 1, kC BK333.out 2, kC BK334.out 0, kC BK334.out 1, kC BK334.out 2⟩ (fun hHeld => ?_)
             clear hK K
             refine norm_ (a' := ?_) ?_ ?_
             rotate_left
             ·show Act.put _ (some 43) _ = _
              simp only [Act.put, sA, sZ, sS, i64_w, i32_w]
              rfl
             refine kP 11 44 #[I, I, I, I, I, I, I, I, I, I, I, I, O, O, O, O, O, O, O, O] ?_ (any_of HT_.out (by kernel_rfl))
             refine kP 12 45 #[I, I, I, I, I, I, I, I, I, I, I, I, I, O, O, O, O, O, O, O] ?_ (any_of HT_.out (by kernel_rfl))
             refine kP 13 46 #[I, I, I, I, I, I, I, I, I, I, I, I, I, I, O, O, O, O, O, O] ?_ (any_of HT_.out (by kernel_rfl))
             refine kP 14 47 #[I, I, I, I, I, I, I, I, I, I, I, I, I, I, I, O, O, O, O, O] ?_ (any_of HT_.out (by kernel_rfl))
             refine kP 15 48 #[I, I, I, I, I, I, I, I, I, I, I, I, I, I, I, I, O, O, O, O] ?_ (any_of HT_.out (by kernel_rfl))
             refine kP 16 49 #[I, I, I, I, I, I, I, I, I, I, I, I, I, I, I, I, I, O, O, O] ?_ (any_of HT_.out (by kernel_rfl))
             refine take_ (i := 17) (N := some 50) (v := ?_) (a' := ?_) #[I, I, I, I, I, I, I, I, I, I, I, I, I, I, I, I, I, I, O, O] rfl rfl (take_ofW HT_.out HW_.out (by kernel_rfl)) (fun _ _ _ h => h) (Or.inl ⟨by rfl, ?_⟩) hHeld ?_ ?_
             rotate_left
             ·rintro w' ⟨s0, s1, s2, s3, s4, s5⟩
              go_simp
              with_reducible rfl
             rotate_left
             ·simp only [Act.put, sA, sZ, sS, i64_w, i32_w]
              rfl
             refine kP 18 51 #[I, I, I, I, I, I, I, I, I, I, I, I, I, I, I, I, I, I, I, O] ?_ (any_of HT_.out (by kernel_rfl))
             refine kP 19 52 #[I, I, I, I, I, I, I, I, I, I, I, I, I, I, I, I, I, I, I, I] ?_ (any_of HT_.out (by kernel_rfl))
             refine done_ (done_of HT_.out (by kernel_rfl)) ?_
             try go_wp2
             go_meet
             case rel => exact ⟨_, (b0), kS, H', ⟨by first | omega | exact Nat.le_refl _⟩, ⟨kb BK333.out⟩, ⟨kb BK334.out⟩, ⟨kb BK335.out⟩, ⟨kB3 HB.out GE333.out GE334.out GE335.out⟩⟩
            rw [if_neg c65] at H
            have c65b0 : (t338 == 0) = false := beq_eq_false_iff_ne.mpr c65
            have c65b1 : (t338 != 0) = true := bne_iff_ne.mpr c65
            have H' := As H
            clear H
            try go_wp2
            replace BK333 := As (blk_drew BK333.out)
            replace BK334 := As (blk_drew BK334.out)
            replace BK335 := As (blk_drew BK335.out)
            replace HB := As (below_drew1 HB.out)
            refine start_ (n := 20) (S := fun w' => w'.cell? ⟨gb333, 0, none⟩ = some (.bool b0) ∧ w'.cell? ⟨gb333, 1, none⟩ = some (.int .u64 b1) ∧ w'.cell? ⟨gb333, 2, none⟩ = some (.int .u64 b2) ∧ w'.cell? ⟨gb334, 0, none⟩ = some (.bool d0) ∧ w'.cell? ⟨gb334, 1, none⟩ = some (.int .u64 d1) ∧ w'.cell? ⟨gb334, 2, none⟩ = some (.int .u64 d2)) (ds := []) #[O, O, O, O, O, O, O, O, O, O, O, O, O, O, O, O, O, O, O, O] (by kernel_rfl) rfl rfl ⟨kC BK333.out 0, kC BK333.out 1, kC BK333.out 2, kC BK334.out 0, kC BK334.out 1, kC BK334.out 2⟩ (fun hHeld => ?_); refine with_tabW intrusionref13_Decode.tab11 intrusionref13_Decode.bits11 (fun HT_ HW_ => ?_)
            generalize w54.drew = w68 at BK333 BK334 BK335 HB hHeld ⊢
            refine kP 0 33 #[I, O, O, O, O, O, O, O, O, O, O, O, O, O, O, O, O, O, O, O] ?_ (any_of HT_.out (by kernel_rfl))
            refine kP 3 36 #[I, O, O, I, O, O, O, O, O, O, O, O, O, O, O, O, O, O, O, O] ?_ (any_of HT_.out (by kernel_rfl))
            refine kP 4 37 #[I, O, O, I, I, O, O, O, O, O, O, O, O, O, O, O, O, O, O, O] ?_ (any_of HT_.out (by kernel_rfl))
            refine kP 5 38 #[I, O, O, I, I, I, O, O, O, O, O, O, O, O, O, O, O, O, O, O] ?_ (any_of HT_.out (by kernel_rfl))
            refine kP 6 39 #[I, O, O, I, I, I, I, O, O, O, O, O, O, O, O, O, O, O, O, O] ?_ (any_of HT_.out (by kernel_rfl))
            refine kP 7 40 #[I, O, O, I, I, I, I, I, O, O, O, O, O, O, O, O, O, O, O, O] ?_ (any_of HT_.out (by kernel_rfl))
            refine kP 8 41 #[I, O, O, I, I, I, I, I, I, O, O, O, O, O, O, O, O, O, O, O] ?_ (any_of HT_.out (by kernel_rfl))
            refine kP 9 42 #[I, O, O, I, I, I, I, I, I, I, O, O, O, O, O, O, O, O, O, O] ?_ (any_of HT_.out (by kernel_rfl))
            refine take_ (i := 1) (N := some 34) (v := ?_) (a' := ?_) #[I, I, O, I, I, I, I, I, I, I, O, O, O, O, O, O, O, O, O, O] rfl rfl (take_ofW HT_.out HW_.out (by kernel_rfl)) (fun _ _ _ h => h) (Or.inl ⟨by rfl, ?_⟩) hHeld ?_ ?_
            rotate_left
            ·rintro w' ⟨s0, s1, s2, s3, s4, s5⟩
             go_simp
             with_reducible rfl
            rotate_left
            ·simp only [Act.put, sA, sZ, sS, i64_w, i32_w]
             rfl
            refine take_ (i := 2) (N := some 35) (v := ?_) (a' := ?_) #[I, I, I, I, I, I, I, I, I, I, O, O, O, O, O, O, O, O, O, O] rfl rfl (take_ofW HT_.out HW_.out (by kernel_rfl)) (fun _ _ _ h => h) (Or.inl ⟨by rfl, ?_⟩) hHeld ?_ ?_
            rotate_left
            ·rintro w' ⟨s0, s1, s2, s3, s4, s5⟩
             go_simp
             with_reducible rfl
            rotate_left
            ·simp only [Act.put, sA, sZ, sS, i64_w, i32_w]
             rfl
            refine one_ (i := 10) (N := some 43) #[I, I, I, I, I, I, I, I, I, I, I, O, O, O, O, O, O, O, O, O] rfl rfl (one_of HT_.out (by kernel_rfl)) (by decide) (fun K hK => ?_)
            refine goes_ Tryd.func94 (by kernel_rfl) rfl #[.agg #[.bool b0, .int .u64 b1, .int .u64 b2], .agg #[.bool d0, .int .u64 d1, .int .u64 d2], .string (((a2.extract 0 6) ++ (⟨#[0, 0]⟩ : ByteArray)) ++ (a2.extract 8 (t337 : Int).toNat))] (by rfl) rfl rfl kA ?_
            with_reducible refine (intrusionref13_Sum.calls k b0 b1 b2 d0 d1 d2 (((a2.extract 0 6) ++ (⟨#[0, 0]⟩ : ByteArray)) ++ (a2.extract 8 (t337 : Int).toNat)) t339 _ A61.out).mono ?_
            rintro e w69 ⟨rfl, hb⟩
            refine ⟨_, rfl, ?_⟩
            replace BK333 := As (blk_below (kb BK333.out) hb)
            replace BK334 := As (blk_below (kb BK334.out) hb)
            replace BK335 := As (blk_below (kb BK335.out) hb)
            replace HB := As (below_step (kB3 HB.out GE333.out GE334.out GE335.out) hb)
            (try clear hb)
            (try clear hb2)
            (try clear hk)
            (try clear hi)
            refine hK.out _ _ ⟨kC BK333.out 0, kC BK333.out 1, kC BK333.out 2, kC BK334.out 0, kC BK334.out 1, kC BK334.out 2⟩ (fun hHeld => ?_)
            clear hK K
            refine norm_ (a' := ?_) ?_ ?_
            rotate_left
            ·show Act.put _ (some 43) _ = _
             simp only [Act.put, sA, sZ, sS, i64_w, i32_w]
             rfl
            refine kP 11 44 #[I, I, I, I, I, I, I, I, I, I, I, I, O, O, O, O, O, O, O, O] ?_ (any_of HT_.out (by kernel_rfl))
            refine kP 12 45 #[I, I, I, I, I, I, I, I, I, I, I, I, I, O, O, O, O, O, O, O] ?_ (any_of HT_.out (by kernel_rfl))
            refine kP 13 46 #[I, I, I, I, I, I, I, I, I, I, I, I, I, I, O, O, O, O, O, O] ?_ (any_of HT_.out (by kernel_rfl))
            refine kP 14 47 #[I, I, I, I, I, I, I, I, I, I, I, I, I, I, I, O, O, O, O, O] ?_ (any_of HT_.out (by kernel_rfl))
            refine kP 15 48 #[I, I, I, I, I, I, I, I, I, I, I, I, I, I, I, I, O, O, O, O] ?_ (any_of HT_.out (by kernel_rfl))
            refine pure_ (i := 16) (N := some 49) (v := undef) (a' := ?_) #[I, I, I, I, I, I, I, I, I, I, I, I, I, I, I, I, I, O, O, O] rfl rfl (any_of HT_.out (by kernel_rfl)) (fun _ _ _ h => h) (Or.inr ⟨by rfl, rfl⟩) ?_ ?_
            rotate_left
            ·simp only [Act.put, sA, sZ, sS, i64_w, i32_w]
             rfl
            refine pure_ (i := 17) (N := some 50) (v := undef) (a' := ?_) #[I, I, I, I, I, I, I, I, I, I, I, I, I, I, I, I, I, I, O, O] rfl rfl (any_of HT_.out (by kernel_rfl)) (fun _ _ _ h => h) (Or.inr ⟨by rfl, rfl⟩) ?_ ?_
            rotate_left
            ·simp only [Act.put, sA, sZ, sS, i64_w, i32_w]
             rfl
            refine kP 18 51 #[I, I, I, I, I, I, I, I, I, I, I, I, I, I, I, I, I, I, I, O] ?_ (any_of HT_.out (by kernel_rfl))
            refine kP 19 52 #[I, I, I, I, I, I, I, I, I, I, I, I, I, I, I, I, I, I, I, I] ?_ (any_of HT_.out (by kernel_rfl))
            refine done_ (done_of HT_.out (by kernel_rfl)) ?_
            try go_wp2
            go_meet
            case rel => exact ⟨_, (true), kS, H', ⟨by first | omega | exact Nat.le_refl _⟩, ⟨kb BK333.out⟩, ⟨kb BK334.out⟩, ⟨kb BK335.out⟩, ⟨kB3 HB.out GE333.out GE334.out GE335.out⟩⟩
           rw [if_neg c60] at H
           exact absurd H (by simp)
          rw [if_neg c59] at H
          exact absurd H (by simp)
         rw [if_neg c58] at H
         exact absurd H (by simp)
        rw [if_neg c57] at H
        exact absurd H (by simp)
       rw [if_neg c55] at H
       exact absurd H (by simp)
      clear HC45
      try clear c5
      try clear c6
      obtain ⟨kq, x52_44, rfl, HA, HJ44, BK333, BK334, BK335, HB⟩ := hcut
      cases kq with
      | zero => exact absurd HA.out (by simp [intrusionref13_Decode.j0])
      | succ kj44 =>
       have H := HA.out
       clear HA
       simp only [intrusionref13_Decode.j0] at H
       by_cases c70 : x52_44 = true
       ·subst c70
        have H1 : (some (0, 0, (⟨#[]⟩ : ByteArray), 8)) = some (r1, r2, r3, r4) := by rw [if_pos rfl] at H; exact H
        clear H
        have H := H1
        clear H1
        simp only [Option.some.injEq, Prod.mk.injEq] at H
        obtain ⟨rfl, rfl, rfl, rfl⟩ := H
        have hnb71 := NB335_333.out
        have hnc71 := NB333_335.out
        have hnb72 := NB335_334.out
        have hnc72 := NB334_335.out
        have hcz73_0 := cells_3 BK335.out
        have hfz73_0 := fun j_ => blk_frozen BK335.out j_
        go_wp2
        refine bodyPost_ret (results_ct rfl _ _ gb335 85 #[.int .i64 0, .int .i64 0, .string (⟨#[]⟩ : ByteArray)] (0, 0) _ rfl (by refine kb ?_; exact blk_all_3 (kb BK335.out) (by rfl)) Tryd.underlying85 rfl (by kernel_rfl)) rfl ?_
        exact ⟨kE, by exact kB3 HB.out GE333.out GE334.out GE335.out⟩
       replace c70 := Bool.eq_false_iff.mpr c70
       subst c70
       have H1 : (if 0 ≤ 2 then (if 2 ≤ (a2.size : Int) then ((intrusionref01_Value.f kj44 (a2.extract 0 2)).bind fun t340 => (if 2 ≤ 4 then (if 4 ≤ (a2.size : Int) then ((intrusionref01_Value.f kj44 (a2.extract 2 4)).bind fun t341 => (if 8 ≤ t337 then (if t337 ≤ (a2.size : Int) then (some (t340, t341, a2.extract 8 (t337 : Int).toNat, 0)) else (none)) else (none))) else (none)) else (none))) else (none)) else (none)) = some (r1, r2, r3, r4) := by rw [if_neg (show ¬ (false = true) by decide)] at H; exact H
       clear H
       have H := H1
       clear H1
       by_cases c74 : 0 ≤ 2
       ·rw [if_pos c74] at H
        have c74b0 := eq_true c74
        have c74b1 : decide (0 ≤ 2) = true := decide_eq_true c74
        clear c74
        by_cases c75 : 2 ≤ (a2.size : Int)
        ·rw [if_pos c75] at H
         have c75b0 := eq_true c75
         have c75b1 : decide (2 ≤ (a2.size : Int)) = true := decide_eq_true c75
         clear c75
         replace H := Option.bind_eq_some_iff.mp H
         obtain ⟨t340, A760, H⟩ := H
         replace H : (if 2 ≤ 4 then (if 4 ≤ (a2.size : Int) then ((intrusionref01_Value.f kj44 (a2.extract 2 4)).bind fun t341 => (if 8 ≤ t337 then (if t337 ≤ (a2.size : Int) then (some (t340, t341, a2.extract 8 (t337 : Int).toNat, 0)) else (none)) else (none))) else (none)) else (none)) = some (r1, r2, r3, r4) := H
         have A76 := As A760
         clear A760
         by_cases c77 : 2 ≤ 4
         ·rw [if_pos c77] at H
          have c77b0 := eq_true c77
          have c77b1 : decide (2 ≤ 4) = true := decide_eq_true c77
          clear c77
          by_cases c78 : 4 ≤ (a2.size : Int)
          ·rw [if_pos c78] at H
           have c78b0 := eq_true c78
           have c78b1 : decide (4 ≤ (a2.size : Int)) = true := decide_eq_true c78
           clear c78
           replace H := Option.bind_eq_some_iff.mp H
           obtain ⟨t341, A790, H⟩ := H
           replace H : (if 8 ≤ t337 then (if t337 ≤ (a2.size : Int) then (some (t340, t341, a2.extract 8 (t337 : Int).toNat, 0)) else (none)) else (none)) = some (r1, r2, r3, r4) := H
           have A79 := As A790
           clear A790
           by_cases c80 : 8 ≤ t337
           ·rw [if_pos c80] at H
            have c80b0 := eq_true c80
            have c80b1 : decide (8 ≤ t337) = true := decide_eq_true c80
            clear c80
            by_cases c81 : t337 ≤ (a2.size : Int)
            ·rw [if_pos c81] at H
             have c81b0 := eq_true c81
             have c81b1 : decide (t337 ≤ (a2.size : Int)) = true := decide_eq_true c81
             clear c81
             simp only [Option.some.injEq, Prod.mk.injEq] at H
             obtain ⟨rfl, rfl, rfl, rfl⟩ := H
             try go_wp2
             replace BK333 := As (blk_drew BK333.out)
             replace BK334 := As (blk_drew BK334.out)
             replace BK335 := As (blk_drew BK335.out)
             replace HB := As (below_drew1 HB.out)
             refine start_ (n := 12) (S := fun w' => True) (ds := []) #[O, O, O, O, O, O, O, O, O, O, O, O] (by kernel_rfl) rfl rfl trivial (fun hHeld => ?_); refine with_tabW intrusionref13_Decode.tab13 intrusionref13_Decode.bits13 (fun HT_ HW_ => ?_)
             generalize wc.drew = w82 at BK333 BK334 BK335 HB hHeld ⊢
             refine kP 0 54 #[I, O, O, O, O, O, O, O, O, O, O, O] ?_ (any_of HT_.out (by kernel_rfl))
             refine kP 1 55 #[I, I, O, O, O, O, O, O, O, O, O, O] ?_ (any_of HT_.out (by kernel_rfl))
             refine kP 3 57 #[I, I, O, I, O, O, O, O, O, O, O, O] ?_ (any_of HT_.out (by kernel_rfl))
             refine kP 4 58 #[I, I, O, I, I, O, O, O, O, O, O, O] ?_ (any_of HT_.out (by kernel_rfl))
             refine kP 6 60 #[I, I, O, I, I, O, I, O, O, O, O, O] ?_ (any_of HT_.out (by kernel_rfl))
             refine kP 7 61 #[I, I, O, I, I, O, I, I, O, O, O, O] ?_ (any_of HT_.out (by kernel_rfl))
             refine kP 8 62 #[I, I, O, I, I, O, I, I, I, O, O, O] ?_ (any_of HT_.out (by kernel_rfl))
             refine one_ (i := 2) (N := some 56) #[I, I, I, I, I, O, I, I, I, O, O, O] rfl rfl (one_of HT_.out (by kernel_rfl)) (by decide) (fun K hK => ?_)
             refine goes_ Tryd.func88 (by kernel_rfl) rfl #[.string (a2.extract 0 2)] (by rfl) rfl rfl kA ?_
             with_reducible refine (intrusionref01_Value.calls kj44 (a2.extract 0 2) t340 _ A76.out).mono ?_
             rintro e w' ⟨rfl, ⟨nd, rfl⟩⟩
             refine ⟨_, rfl, ?_⟩
             refine hK.out _ _ trivial (fun hHeld => ?_)
             clear hK K
             refine norm_ (a' := ?_) ?_ ?_
             rotate_left
             ·show Act.put _ (some 56) _ = _
              simp only [Act.put, sA, sZ, sS, i64_w, i32_w]
              rfl
             refine one_ (i := 5) (N := some 59) #[I, I, I, I, I, I, I, I, I, O, O, O] rfl rfl (one_of HT_.out (by kernel_rfl)) (by decide) (fun K hK => ?_)
             refine goes_ Tryd.func88 (by kernel_rfl) rfl #[.string (a2.extract 2 4)] (by rfl) rfl rfl kA ?_
             with_reducible refine (intrusionref01_Value.calls kj44 (a2.extract 2 4) t341 _ A79.out).mono ?_
             rintro e w' ⟨rfl, ⟨nd, rfl⟩⟩
             refine ⟨_, rfl, ?_⟩
             refine hK.out _ _ trivial (fun hHeld => ?_)
             clear hK K
             refine norm_ (a' := ?_) ?_ ?_
             rotate_left
             ·show Act.put _ (some 59) _ = _
              simp only [Act.put, sA, sZ, sS, i64_w, i32_w]
              rfl
             refine kP 9 63 #[I, I, I, I, I, I, I, I, I, I, O, O] ?_ (any_of HT_.out (by kernel_rfl))
             refine one_ (i := 10) (N := none) #[I, I, I, I, I, I, I, I, I, I, I, O] rfl rfl (one_of HT_.out (by kernel_rfl)) (by decide) (fun K hK => ?_)
             have hs83 : w82.cell? ⟨gb335, 0, none⟩ = some (.int .i64 0) := (blk_cell BK335.out 0).trans rfl
             have hfs83 := blk_frozen BK335.out 0
             have hns83_0 := NB333_335.out
             have hns83_1 := NB334_335.out
             have hms83_0 := NB335_333.out
             have hms83_1 := NB335_334.out
             have hs84 : w82.cell? ⟨gb335, 1, none⟩ = some (.int .i64 0) := (blk_cell BK335.out 1).trans rfl
             have hfs84 := blk_frozen BK335.out 1
             have hns84_0 := NB333_335.out
             have hns84_1 := NB334_335.out
             have hms84_0 := NB335_333.out
             have hms84_1 := NB335_334.out
             have hs85 : w82.cell? ⟨gb335, 2, none⟩ = some (.string (⟨#[]⟩ : ByteArray)) := (blk_cell BK335.out 2).trans rfl
             have hfs85 := blk_frozen BK335.out 2
             have hns85_0 := NB333_335.out
             have hns85_1 := NB334_335.out
             have hms85_0 := NB335_333.out
             have hms85_1 := NB335_334.out
             refine skip_ (w1 := ?_) (by rfl) rfl ?_ ?_
             rotate_left
             ·go_simp
              rfl
             refine hK.out _ _ trivial (fun hHeld => ?_)
             clear hK K
             refine kP 11 7 #[I, I, I, I, I, I, I, I, I, I, I, I] ?_ (any_of HT_.out (by kernel_rfl))
             refine done_ (done_of HT_.out (by kernel_rfl)) ?_
             try go_wp2
             refine bodyPost_ret (results_ct rfl _ _ gb335 85 #[.int .i64 t340, .int .i64 t341, .string (a2.extract 8 (t337 : Int).toNat)] (0, 0) _ rfl (by refine kb ?_; exact blk_all_3 (kb BK335.out) (by rfl)) Tryd.underlying85 rfl (by kernel_rfl)) rfl ?_
             exact ⟨kE, by exact kB3 HB.out GE333.out GE334.out GE335.out⟩
            rw [if_neg c81] at H
            exact absurd H (by simp)
           rw [if_neg c80] at H
           exact absurd H (by simp)
          rw [if_neg c78] at H
          exact absurd H (by simp)
         rw [if_neg c77] at H
         exact absurd H (by simp)
        rw [if_neg c75] at H
        exact absurd H (by simp)
       rw [if_neg c74] at H
       exact absurd H (by simp)
     rw [if_neg c43] at H
     exact absurd H (by simp)
    rw [if_neg c42] at H
    exact absurd H (by simp)
   rw [if_neg c18] at H
   exact absurd H (by simp)
  rw [if_neg c17] at H
  exact absurd H (by simp)
 replace c5 := Bool.eq_false_iff.mpr c5
 subst c5
 have H1 : (some (0, 0, (⟨#[]⟩ : ByteArray), 13)) = some (r1, r2, r3, r4) := by rw [if_neg (show ¬ (false = true) by decide)] at H; exact H
 clear H
 have H := H1
 clear H1
 simp only [Option.some.injEq, Prod.mk.injEq] at H
 obtain ⟨rfl, rfl, rfl, rfl⟩ := H
 go_enter Tryd.func84, Tryd.ntmps84
 go_wp2_with (first | ((with_reducible refine gate_dst (N := 3) rfl ?_); refine box_event rfl (N := 3) rfl (cs := #[.bool b0, .int .u64 b1, .int .u64 b2]) (t := 24) kG ?_; intro gb333 hg w86 hbox hb; have BK333 := As (hbox); have GW333 := As ((by rw [hg]; exact (below_size (kB HB.out)) : w.heap.size ≤ gb333)); have GE333 := As ((by rw [hg]; exact (below_size (kB HB.out)) : w.heap.size ≤ gb333)); replace HB := As (below_step (kB HB.out) hb); clear hb hbox hg) | ((with_reducible refine gate_dst (N := 4) rfl ?_); refine box_event rfl (N := 4) rfl (cs := #[.bool d0, .int .u64 d1, .int .u64 d2]) (t := 24) kG ?_; intro gb334 hg w87 hbox hb; have BK334 := As (hbox); have GW334 := As ((by rw [hg]; exact (below_size (kB1 HB.out GE333.out)) : w.heap.size ≤ gb334)); have GE334 := As ((by rw [hg]; exact (below_size (kB1 HB.out GE333.out)) : w.heap.size ≤ gb334)); replace HB := As (below_step (kB1 HB.out GE333.out) hb); have NB333_334 := As ((by rw [hg]; exact Nat.ne_of_lt (blk_lt (kb BK333.out)) : gb333 ≠ gb334)); have NB334_333 := As ((by rw [hg]; exact Nat.ne_of_gt (blk_lt (kb BK333.out)) : gb334 ≠ gb333)); replace BK333 := As (blk_below (kb BK333.out) hb); clear hb hbox hg) | ((with_reducible refine gate_dst (N := 6) rfl ?_); refine box_event rfl (N := 6) rfl (cs := #[.int .i64 0, .int .i64 0, .string (⟨#[]⟩ : ByteArray)]) (t := 85) kG ?_; intro gb335 hg w88 hbox hb; have BK335 := As (hbox); have GW335 := As ((by rw [hg]; exact (below_size (kB2 HB.out GE333.out GE334.out)) : w.heap.size ≤ gb335)); have GE335 := As ((by rw [hg]; exact (below_size (kB2 HB.out GE333.out GE334.out)) : w.heap.size ≤ gb335)); replace HB := As (below_step (kB2 HB.out GE333.out GE334.out) hb); have NB333_335 := As ((by rw [hg]; exact Nat.ne_of_lt (blk_lt (kb BK333.out)) : gb333 ≠ gb335)); have NB335_333 := As ((by rw [hg]; exact Nat.ne_of_gt (blk_lt (kb BK333.out)) : gb335 ≠ gb333)); replace BK333 := As (blk_below (kb BK333.out) hb); have NB334_335 := As ((by rw [hg]; exact Nat.ne_of_lt (blk_lt (kb BK334.out)) : gb334 ≠ gb335)); have NB335_334 := As ((by rw [hg]; exact Nat.ne_of_gt (blk_lt (kb BK334.out)) : gb335 ≠ gb334)); replace BK334 := As (blk_below (kb BK334.out) hb); clear hb hbox hg; have hnb89 := NB333_334.out; have hnc89 := NB334_333.out; have hnb90 := NB333_335.out; have hnc90 := NB335_333.out; have hcz91_0 := cells_3 BK333.out; have hfz91_0 := fun j_ => blk_frozen BK333.out j_; have hnb92 := NB334_335.out; have hnc92 := NB335_334.out; have hcz93_0 := cells_3 BK334.out; have hfz93_0 := fun j_ => blk_frozen BK334.out j_) | ((with_reducible refine gate_callee (f := 93) rfl ?_); refine goesL_ (some 12) rfl rfl Tryd.func93 (by kernel_rfl) rfl #[.agg #[.bool b0, .int .u64 b1, .int .u64 b2], .agg #[.bool d0, .int .u64 d1, .int .u64 d2]] rfl kA ?_; (with_reducible refine (intrusionref13_Fit.calls b0 b1 b2 d0 d1 d2 false _ A4.out).mono ?_); rintro e w94 ⟨rfl, hb⟩; refine ⟨_, rfl, ?_⟩; replace BK333 := As (blk_below (kb BK333.out) hb); replace BK334 := As (blk_below (kb BK334.out) hb); replace BK335 := As (blk_below (kb BK335.out) hb); replace HB := As (below_step (kB3 HB.out GE333.out GE334.out GE335.out) hb); (try clear hb); have hcz95_0 := cells_3 BK335.out; have hfz95_0 := fun j_ => blk_frozen BK335.out j_))
 refine bodyPost_ret (results_ct rfl _ _ gb335 85 #[.int .i64 0, .int .i64 0, .string (⟨#[]⟩ : ByteArray)] (0, 0) _ rfl (by refine kb ?_; exact blk_all_3 (kb BK335.out) (by rfl)) Tryd.underlying85 rfl (by kernel_rfl)) rfl ?_
 exact ⟨kE, by exact kB3 HB.out GE333.out GE334.out GE335.out⟩

end Go.Proofs.YtocobalkikkhlaaDoor.X
-- short
