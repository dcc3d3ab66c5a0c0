/- Functions and their walks, printed by xprint.py. -/
import Derived.Test.YtocobalkikkhlaaDoorX0
import Derived.Test.YtocobalkikkhlaaDoorX4
import Derived.Test.YtocobalkikkhlaaDoorX7
import Derived.Test.YtocobalkikkhlaaDoorX9
import Derived.Test.YtocobalkikkhlaaDoorX15
namespace Go.Proofs.YtocobalkikkhlaaDoor.X
open Go.RowKit Go.Proofs.YtocobalkikkhlaaDoorW.PrintWords Go.Proofs.YtocobalkikkhlaaDoorW.PrintLast Go.Proofs.YtocobalkikkhlaaDoorW.PrintMore
attribute [local go_sem] max2_int min2_int max_two min_two max_three min_three max_four min_four   -- for this text's walks alone
set_option linter.unusedVariables false
set_option linter.unusedSimpArgs false

/-! ### udp_Encode: function 51 -/
def udp_Encode.j0 : Nat → Bool → Int → Int → ByteArray → Bool → Int → Int → Bool → Int → Int → Option (ByteArray × Int)
 | 0, _, _, _, _, _, _, _, _, _, _ => none
 | k + 1, x17, x453000, x453001, x453002, x454000, x454001, x454002, x454003, x454004, x454005 => if x17 = true then (some ((⟨#[]⟩ : ByteArray), 4)) else (if (x453002.size : Int) > 65507 then (some ((⟨#[]⟩ : ByteArray), 3)) else ((field_Put.f k x453000 2).bind fun t457 => ((field_Put.f k x453001 2).bind fun t458 => (if t457.size + t458.size ≤ 9223372036854775807 then ((field_Put.f k (wrap64 (8 + (x453002.size : Int))) 2).bind fun t459 => (if (t457 ++ t458).size + t459.size ≤ 9223372036854775807 then (if ((t457 ++ t458) ++ t459).size + 2 ≤ 9223372036854775807 then (if (((t457 ++ t458) ++ t459) ++ (⟨#[0, 0]⟩ : ByteArray)).size + x453002.size ≤ 9223372036854775807 then ((udp_ends_sum.f k x454000 x454001 x454002 x454003 x454004 x454005 ((((t457 ++ t458) ++ t459) ++ (⟨#[0, 0]⟩ : ByteArray)) ++ x453002)).bind fun t460 => ((field_Put.f k t460 2).bind fun t461 => (if ((t457 ++ t458) ++ t459).size + t461.size ≤ 9223372036854775807 then (if (((t457 ++ t458) ++ t459) ++ t461).size + x453002.size ≤ 9223372036854775807 then (some ((((t457 ++ t458) ++ t459) ++ t461) ++ x453002, 0)) else (none)) else (none)))) else (none)) else (none)) else (none))) else (none)))))
def udp_Encode.f (k : Nat) (b0 : Bool) (b1 : Int) (b2 : Int) (d0 : Bool) (d1 : Int) (d2 : Int) (a2_0 : Int) (a2_1 : Int) (a2_2 : ByteArray) : Option (ByteArray × Int) := (udp_ends_fit.f b0 b1 b2 d0 d1 d2).bind fun t454 => (if t454 = true then ((udp_port.f a2_0).bind fun t455 => (if t455 = true then ((udp_port.f a2_1).bind fun t456 => (udp_Encode.j0 k (!t456) a2_0 a2_1 a2_2 b0 b1 b2 d0 d1 d2)) else (udp_Encode.j0 k true a2_0 a2_1 a2_2 b0 b1 b2 d0 d1 d2))) else (some ((⟨#[]⟩ : ByteArray), 13)))
theorem udp_Encode.mono_l : ∀ k, (∀ y0 y1 y2 y3 y4 y5 y6 y7 y8 y9, LeO (udp_Encode.j0 k y0 y1 y2 y3 y4 y5 y6 y7 y8 y9) (udp_Encode.j0 (k + 1) y0 y1 y2 y3 y4 y5 y6 y7 y8 y9))
 | 0 => fun _ _ _ _ _ _ _ _ _ _ r h => by simp [udp_Encode.j0] at h
 | k + 1 => by
  have ih0 := udp_Encode.mono_l k
  intro y0 y1 y2 y3 y4 y5 y6 y7 y8 y9
  unfold udp_Encode.j0
  repeat' first | with_reducible first | apply ih0 | apply field_Put.mono | apply udp_ends_sum.mono | apply LeO.refl | apply LeO.none | refine LeO.ite ?_ ?_ | refine LeO.bind ?_ (fun _ => ?_)
theorem udp_Encode.mono : ∀ a0 a1 a2 a3 a4 a5 a6 a7 a8 k, LeO (udp_Encode.f k a0 a1 a2 a3 a4 a5 a6 a7 a8) (udp_Encode.f (k + 1) a0 a1 a2 a3 a4 a5 a6 a7 a8) := by
 intro a0 a1 a2 a3 a4 a5 a6 a7 a8 k
 have ih0 := udp_Encode.mono_l k
 unfold udp_Encode.f
 repeat' first | with_reducible first | apply ih0 | apply field_Put.mono | apply udp_ends_sum.mono | apply LeO.refl | apply LeO.none | refine LeO.ite ?_ ?_ | refine LeO.bind ?_ (fun _ => ?_)
def udp_Encode.T8 : Bool × List (List Nat × List Nat) := (true, [([], []), ([0], [0]), ([1], [1]), ([], []), ([3], [3]), ([4, 2], [4]), ([2, 5], [2, 5]), ([], []), ([7], [7]), ([8], [8]), ([9], [9]), ([10, 5], [10]), ([6, 11], [6, 11]), ([12, 11, 0, 1, 2, 3, 4, 5, 6, 7, 8, 9, 10, 11, 12], [12])])
def udp_Encode.B8 : List Nat := [0, 1, 3, 0, 8, 31, 63, 0, 128, 384, 896, 1983, 4095, 8191]
theorem udp_Encode.tab8 : rtab .any (opsOf Tryd.f51 8) = udp_Encode.T8 := by kernel_rfl
theorem udp_Encode.bits8 : waitsOk udp_Encode.T8.2 udp_Encode.B8 = true := by kernel_rfl
def udp_Encode.T9 : Bool × List (List Nat × List Nat) := (true, [([], []), ([], []), ([], []), ([2], [2]), ([], []), ([4], [4]), ([3, 5], [3, 5]), ([1, 6], [1, 6]), ([7, 7], [7]), ([0, 8], [0, 8]), ([], []), ([10], [10]), ([9, 11], [9, 11]), ([12, 8, 0, 1, 2, 3, 4, 5, 6, 7, 8, 9, 10, 11, 12], [12]), ([13, 0, 1, 2, 3, 4, 5, 6, 7, 8, 9, 10, 11, 12, 13], [])])
def udp_Encode.B9 : List Nat := [0, 0, 0, 4, 0, 16, 60, 126, 254, 511, 0, 1024, 4095, 8191, 16383]
theorem udp_Encode.tab9 : rtab .any (opsOf Tryd.f51 9) = udp_Encode.T9 := by kernel_rfl
theorem udp_Encode.bits9 : waitsOk udp_Encode.T9.2 udp_Encode.B9 = true := by kernel_rfl
set_option maxHeartbeats 8000000 in
set_option maxRecDepth 100000 in
theorem udp_Encode.calls (k : Nat) (b0 : Bool) (b1 : Int) (b2 : Int) (d0 : Bool) (d1 : Int) (d2 : Int) (a2_0 : Int) (a2_1 : Int) (a2_2 : ByteArray) (r1 : ByteArray) (r2 : Int) (w : World) (hLd : Laid w) (h : udp_Encode.f k b0 b1 b2 d0 d1 d2 a2_0 a2_1 a2_2 = some (r1, r2)) :
  Calls Tryd.prog 51 #[.agg #[.bool b0, .int .u64 b1, .int .u64 b2], .agg #[.bool d0, .int .u64 d1, .int .u64 d2], .agg #[.int .i64 a2_0, .int .i64 a2_1, .string a2_2]] w fun e w' => e = .returned (.tuple #[.string r1, .int .i64 r2]) ∧ Below w.heap.size w w' := by
 have hu24 := Tryd.underlying24
 have hu85 := Tryd.underlying85
 have hu118 := Tryd.underlying118
 have HLD := As hLd
 clear hLd
 have HB := As (Below.refl w.heap.size w)
 have H : ((udp_ends_fit.f b0 b1 b2 d0 d1 d2).bind fun t454 => (if t454 = true then ((udp_port.f a2_0).bind fun t455 => (if t455 = true then ((udp_port.f a2_1).bind fun t456 => (udp_Encode.j0 k (!t456) a2_0 a2_1 a2_2 b0 b1 b2 d0 d1 d2)) else (udp_Encode.j0 k true a2_0 a2_1 a2_2 b0 b1 b2 d0 d1 d2))) else (some ((⟨#[]⟩ : ByteArray), 13)))) = some (r1, r2) := h
 clear h
 replace H := Option.bind_eq_some_iff.mp H
 obtain ⟨t454, A40, H⟩ := H
 replace H : (if t454 = true then ((udp_port.f a2_0).bind fun t455 => (if t455 = true then ((udp_port.f a2_1).bind fun t456 => (udp_Encode.j0 k (!t456) a2_0 a2_1 a2_2 b0 b1 b2 d0 d1 d2)) else (udp_Encode.j0 k true a2_0 a2_1 a2_2 b0 b1 b2 d0 d1 d2))) else (some ((⟨#[]⟩ : ByteArray), 13))) = some (r1, r2) := H
 have A4 := As A40
 clear A40
 by_cases c5 : t454 = true
 ·subst c5
  have H1 : ((udp_port.f a2_0).bind fun t455 => (if t455 = true then ((udp_port.f a2_1).bind fun t456 => (udp_Encode.j0 k (!t456) a2_0 a2_1 a2_2 b0 b1 b2 d0 d1 d2)) else (udp_Encode.j0 k true a2_0 a2_1 a2_2 b0 b1 b2 d0 d1 d2))) = some (r1, r2) := by rw [if_pos rfl] at H; exact H
  clear H
  have H := H1
  clear H1
  have HC6 := As H
  clear H
  go_enter Tryd.func51, Tryd.ntmps51
  go_upto_region 4 with (first | ((with_reducible refine gate_dst (N := 3) rfl ?_); refine box_event rfl (N := 3) rfl (cs := #[.bool b0, .int .u64 b1, .int .u64 b2]) (t := 24) kG ?_; intro gb450 hg w7 hbox hb; have BK450 := As (hbox); have GW450 := As ((by rw [hg]; exact (below_size (kB HB.out)) : w.heap.size ≤ gb450)); have GE450 := As ((by rw [hg]; exact (below_size (kB HB.out)) : w.heap.size ≤ gb450)); replace HB := As (below_step (kB HB.out) hb); clear hb hbox hg) | ((with_reducible refine gate_dst (N := 4) rfl ?_); refine box_event rfl (N := 4) rfl (cs := #[.bool d0, .int .u64 d1, .int .u64 d2]) (t := 24) kG ?_; intro gb451 hg w8 hbox hb; have BK451 := As (hbox); have GW451 := As ((by rw [hg]; exact (below_size (kB1 HB.out GE450.out)) : w.heap.size ≤ gb451)); have GE451 := As ((by rw [hg]; exact (below_size (kB1 HB.out GE450.out)) : w.heap.size ≤ gb451)); replace HB := As (below_step (kB1 HB.out GE450.out) hb); have NB450_451 := As ((by rw [hg]; exact Nat.ne_of_lt (blk_lt (kb BK450.out)) : gb450 ≠ gb451)); have NB451_450 := As ((by rw [hg]; exact Nat.ne_of_gt (blk_lt (kb BK450.out)) : gb451 ≠ gb450)); replace BK450 := As (blk_below (kb BK450.out) hb); clear hb hbox hg) | ((with_reducible refine gate_dst (N := 5) rfl ?_); refine box_event rfl (N := 5) rfl (cs := #[.int .i64 a2_0, .int .i64 a2_1, .string a2_2]) (t := 85) kG ?_; intro gb452 hg w9 hbox hb; have BK452 := As (hbox); have GW452 := As ((by rw [hg]; exact (below_size (kB2 HB.out GE450.out GE451.out)) : w.heap.size ≤ gb452)); have GE452 := As ((by rw [hg]; exact (below_size (kB2 HB.out GE450.out GE451.out)) : w.heap.size ≤ gb452)); replace HB := As (below_step (kB2 HB.out GE450.out GE451.out) hb); have NB450_452 := As ((by rw [hg]; exact Nat.ne_of_lt (blk_lt (kb BK450.out)) : gb450 ≠ gb452)); have NB452_450 := As ((by rw [hg]; exact Nat.ne_of_gt (blk_lt (kb BK450.out)) : gb452 ≠ gb450)); replace BK450 := As (blk_below (kb BK450.out) hb); have NB451_452 := As ((by rw [hg]; exact Nat.ne_of_lt (blk_lt (kb BK451.out)) : gb451 ≠ gb452)); have NB452_451 := As ((by rw [hg]; exact Nat.ne_of_gt (blk_lt (kb BK451.out)) : gb452 ≠ gb451)); replace BK451 := As (blk_below (kb BK451.out) hb); clear hb hbox hg; have hnb10 := NB450_451.out; have hnc10 := NB451_450.out; have hnb11 := NB450_452.out; have hnc11 := NB452_450.out; have hcz12_0 := cells_3 BK450.out; have hfz12_0 := fun j_ => blk_frozen BK450.out j_; have hnb13 := NB451_452.out; have hnc13 := NB452_451.out; have hcz14_0 := cells_3 BK451.out; have hfz14_0 := fun j_ => blk_frozen BK451.out j_) | ((with_reducible refine gate_dst (N := 8) rfl ?_); refine box_event rfl (N := 8) rfl (cs := #[.bool false, .int .u64 0, .int .u64 0, .bool false, .int .u64 0, .int .u64 0]) (t := 118) kG ?_; intro gb453 hg w15 hbox hb; have BK453 := As (hbox); have GW453 := As ((by rw [hg]; exact (below_size (kB3 HB.out GE450.out GE451.out GE452.out)) : w.heap.size ≤ gb453)); have GE453 := As ((by rw [hg]; exact (below_size (kB3 HB.out GE450.out GE451.out GE452.out)) : w.heap.size ≤ gb453)); replace HB := As (below_step (kB3 HB.out GE450.out GE451.out GE452.out) hb); have NB450_453 := As ((by rw [hg]; exact Nat.ne_of_lt (blk_lt (kb BK450.out)) : gb450 ≠ gb453)); have NB453_450 := As ((by rw [hg]; exact Nat.ne_of_gt (blk_lt (kb BK450.out)) : gb453 ≠ gb450)); replace BK450 := As (blk_below (kb BK450.out) hb); have NB451_453 := As ((by rw [hg]; exact Nat.ne_of_lt (blk_lt (kb BK451.out)) : gb451 ≠ gb453)); have NB453_451 := As ((by rw [hg]; exact Nat.ne_of_gt (blk_lt (kb BK451.out)) : gb453 ≠ gb451)); replace BK451 := As (blk_below (kb BK451.out) hb); have NB452_453 := As ((by rw [hg]; exact Nat.ne_of_lt (blk_lt (kb BK452.out)) : gb452 ≠ gb453)); have NB453_452 := As ((by rw [hg]; exact Nat.ne_of_gt (blk_lt (kb BK452.out)) : gb453 ≠ gb452)); replace BK452 := As (blk_below (kb BK452.out) hb); clear hb hbox hg; have hnb16 := NB453_450.out; have hnc16 := NB450_453.out; have hnb17 := NB453_451.out; have hnc17 := NB451_453.out; have hnb18 := NB453_452.out; have hnc18 := NB452_453.out; have hcz19_0 := cells_6 BK453.out; have hfz19_0 := fun j_ => blk_frozen BK453.out j_) | ((with_reducible refine gate_callee (f := 90) rfl ?_); refine goesL_ (some 15) rfl rfl Tryd.func90 (by kernel_rfl) rfl #[.agg #[.bool b0, .int .u64 b1, .int .u64 b2, .bool d0, .int .u64 d1, .int .u64 d2]] rfl kA ?_; (with_reducible refine (udp_ends_fit.calls b0 b1 b2 d0 d1 d2 true _ A4.out).mono ?_); rintro e w20 ⟨rfl, hb⟩; refine ⟨_, rfl, ?_⟩; replace BK450 := As (blk_below (g := gb450) (o := .cells #[.bool b0, .int .u64 b1, .int .u64 b2] 24 (0, 0)) (by refine kb ?_; (iterate 6 (refine blk_far ?_ NB450_453.out _; refine kb ?_)); exact BK450.out) hb); replace BK451 := As (blk_below (g := gb451) (o := .cells #[.bool d0, .int .u64 d1, .int .u64 d2] 24 (0, 0)) (by refine kb ?_; (iterate 6 (refine blk_far ?_ NB451_453.out _; refine kb ?_)); exact BK451.out) hb); replace BK452 := As (blk_below (g := gb452) (o := .cells #[.int .i64 a2_0, .int .i64 a2_1, .string a2_2] 85 (0, 0)) (by refine kb ?_; (iterate 6 (refine blk_far ?_ NB452_453.out _; refine kb ?_)); exact BK452.out) hb); replace BK453 := As (blk_below (g := gb453) (o := .cells #[.bool b0, .int .u64 b1, .int .u64 b2, .bool d0, .int .u64 d1, .int .u64 d2] 118 (0, 0)) (by refine kb ?_; exact blk_all_6 (kb BK453.out) (by rfl)) hb); replace HB := As (below_step (by repeat (first | (with_reducible first | exact HB.out | apply below_alloc | apply pw_below_drewN | apply below_drew1 | refine below_set ?_ GE450.out | refine below_set ?_ GE451.out | refine below_set ?_ GE452.out | refine below_set ?_ GE453.out) | exact HB.out)) hb); (try clear hb)))
  (try simp only [Act.put, sA, sZ, sS])
  go_cut [17] (fun v17 wc => ∃ (kq : Nat) (x17_5 : Bool), v17 = .bool x17_5 ∧ Aside0 (udp_Encode.j0 kq x17_5 a2_0 a2_1 a2_2 b0 b1 b2 d0 d1 d2 = some (r1, r2)) ∧ Aside0 (kq ≤ k) ∧ Aside0 (wc.heap[gb450]? = some (.cells #[.bool b0, .int .u64 b1, .int .u64 b2] 24 (0, 0))) ∧ Aside0 (wc.heap[gb451]? = some (.cells #[.bool d0, .int .u64 d1, .int .u64 d2] 24 (0, 0))) ∧ Aside0 (wc.heap[gb452]? = some (.cells #[.int .i64 a2_0, .int .i64 a2_1, .string a2_2] 85 (0, 0))) ∧ Aside0 (wc.heap[gb453]? = some (.cells #[.bool b0, .int .u64 b1, .int .u64 b2, .bool d0, .int .u64 d1, .int .u64 d2] 118 (0, 0))) ∧ Aside0 (Below w.heap.size w wc))
  case first =>
   have H := HC6.out
   clear HC6
   replace H := Option.bind_eq_some_iff.mp H
   obtain ⟨t455, A210, H⟩ := H
   replace H : (if t455 = true then ((udp_port.f a2_1).bind fun t456 => (udp_Encode.j0 k (!t456) a2_0 a2_1 a2_2 b0 b1 b2 d0 d1 d2)) else (udp_Encode.j0 k true a2_0 a2_1 a2_2 b0 b1 b2 d0 d1 d2)) = some (r1, r2) := H
   have A21 := As A210
   clear A210
   by_cases c22 : t455 = true
   ·subst c22
    have H1 : ((udp_port.f a2_1).bind fun t456 => (udp_Encode.j0 k (!t456) a2_0 a2_1 a2_2 b0 b1 b2 d0 d1 d2)) = some (r1, r2) := by rw [if_pos rfl] at H; exact H
    clear H
    have H := H1
    clear H1
    replace H := Option.bind_eq_some_iff.mp H
    obtain ⟨t456, A230, H⟩ := H
    replace H : (udp_Encode.j0 k (!t456) a2_0 a2_1 a2_2 b0 b1 b2 d0 d1 d2) = some (r1, r2) := H
    have A23 := As A230
    clear A230
    have H' := As H
    clear H
    have hnb24 := NB452_450.out
    have hnc24 := NB450_452.out
    have hnb25 := NB452_451.out
    have hnc25 := NB451_452.out
    have hnb26 := NB452_453.out
    have hnc26 := NB453_452.out
    have hcz27_0 := cells_3 BK452.out
    have hfz27_0 := fun j_ => blk_frozen BK452.out j_
    go_wp2_with (first | ((with_reducible refine gate_callee (f := 91) rfl ?_); refine goesL_ (some 20) rfl rfl Tryd.func91 (by kernel_rfl) rfl #[.int .i64 a2_0] rfl kA ?_; (with_reducible refine (udp_port.calls a2_0 true _ A21.out).mono ?_); rintro e w' ⟨rfl, ⟨nd, rfl⟩⟩; refine ⟨_, rfl, ?_⟩) | (go_at_call 91; (with_reducible refine (udp_port.calls a2_1 t456 _ A23.out).mono ?_); rintro e w' ⟨rfl, ⟨nd, rfl⟩⟩))
    go_meet
    case rel => exact ⟨_, (!t456), kS, H', ⟨by first | omega | exact Nat.le_refl _⟩, ⟨kb BK450.out⟩, ⟨kb BK451.out⟩, ⟨kb BK452.out⟩, ⟨kb BK453.out⟩, ⟨by repeat (first | (with_reducible first | exact HB.out | apply below_alloc | apply pw_below_drewN | apply below_drew1 | refine below_set ?_ GE450.out | refine below_set ?_ GE451.out | refine below_set ?_ GE452.out | refine below_set ?_ GE453.out) | exact HB.out)⟩⟩
   replace c22 := Bool.eq_false_iff.mpr c22
   subst c22
   have H1 : (udp_Encode.j0 k true a2_0 a2_1 a2_2 b0 b1 b2 d0 d1 d2) = some (r1, r2) := by rw [if_neg (show ¬ (false = true) by decide)] at H; exact H
   clear H
   have H := H1
   clear H1
   have H' := As H
   clear H
   have hnb28 := NB452_450.out
   have hnc28 := NB450_452.out
   have hnb29 := NB452_451.out
   have hnc29 := NB451_452.out
   have hnb30 := NB452_453.out
   have hnc30 := NB453_452.out
   have hcz31_0 := cells_3 BK452.out
   have hfz31_0 := fun j_ => blk_frozen BK452.out j_
   go_wp2_with (first | ((with_reducible refine gate_callee (f := 91) rfl ?_); refine goesL_ (some 20) rfl rfl Tryd.func91 (by kernel_rfl) rfl #[.int .i64 a2_0] rfl kA ?_; (with_reducible refine (udp_port.calls a2_0 false _ A21.out).mono ?_); rintro e w' ⟨rfl, ⟨nd, rfl⟩⟩; refine ⟨_, rfl, ?_⟩))
   go_meet
   case rel => exact ⟨_, (true), kS, H', ⟨by first | omega | exact Nat.le_refl _⟩, ⟨kb BK450.out⟩, ⟨kb BK451.out⟩, ⟨kb BK452.out⟩, ⟨kb BK453.out⟩, ⟨by repeat (first | (with_reducible first | exact HB.out | apply below_alloc | apply pw_below_drewN | apply below_drew1 | refine below_set ?_ GE450.out | refine below_set ?_ GE451.out | refine below_set ?_ GE452.out | refine below_set ?_ GE453.out) | exact HB.out)⟩⟩
  clear HC6
  try clear c5
  try clear hcz12_0
  try clear hcz14_0
  try clear hcz19_0
  try clear hfz12_0
  try clear hfz14_0
  try clear hfz19_0
  obtain ⟨kq, x17_5, rfl, HA, HJ5, BK450, BK451, BK452, BK453, HB⟩ := hcut
  cases kq with
  | zero => exact absurd HA.out (by simp [udp_Encode.j0])
  | succ kj5 =>
   have H := HA.out
   clear HA
   simp only [udp_Encode.j0] at H
   by_cases c32 : x17_5 = true
   ·subst c32
    have H1 : (some ((⟨#[]⟩ : ByteArray), 4)) = some (r1, r2) := by rw [if_pos rfl] at H; exact H
    clear H
    have H := H1
    clear H1
    simp only [Option.some.injEq, Prod.mk.injEq] at H
    obtain ⟨rfl, rfl⟩ := H
    go_wp2
    go_ret2
    exact ⟨kE, by repeat (first | (with_reducible first | exact HB.out | apply below_alloc | apply pw_below_drewN | apply below_drew1 | refine below_set ?_ GE450.out | refine below_set ?_ GE451.out | refine below_set ?_ GE452.out | refine below_set ?_ GE453.out) | exact HB.out)⟩
   replace c32 := Bool.eq_false_iff.mpr c32
   subst c32
   have H1 : (if (a2_2.size : Int) > 65507 then (some ((⟨#[]⟩ : ByteArray), 3)) else ((field_Put.f kj5 a2_0 2).bind fun t457 => ((field_Put.f kj5 a2_1 2).bind fun t458 => (if t457.size + t458.size ≤ 9223372036854775807 then ((field_Put.f kj5 (wrap64 (8 + (a2_2.size : Int))) 2).bind fun t459 => (if (t457 ++ t458).size + t459.size ≤ 9223372036854775807 then (if ((t457 ++ t458) ++ t459).size + 2 ≤ 9223372036854775807 then (if (((t457 ++ t458) ++ t459) ++ (⟨#[0, 0]⟩ : ByteArray)).size + a2_2.size ≤ 9223372036854775807 then ((udp_ends_sum.f kj5 b0 b1 b2 d0 d1 d2 ((((t457 ++ t458) ++ t459) ++ (⟨#[0, 0]⟩ : ByteArray)) ++ a2_2)).bind fun t460 => ((field_Put.f kj5 t460 2).bind fun t461 => (if ((t457 ++ t458) ++ t459).size + t461.size ≤ 9223372036854775807 then (if (((t457 ++ t458) ++ t459) ++ t461).size + a2_2.size ≤ 9223372036854775807 then (some ((((t457 ++ t458) ++ t459) ++ t461) ++ a2_2, 0)) else (none)) else (none)))) else (none)) else (none)) else (none))) else (none))))) = some (r1, r2) := by rw [if_neg (show ¬ (false = true) by decide)] at H; exact H
   clear H
   have H := H1
   clear H1
   by_cases c33 : (a2_2.size : Int) > 65507
   ·rw [if_pos c33] at H
    have c33b0 : decide (65507 < (a2_2.size : Int)) = true := decide_eq_true c33
    have c33b1 : decide (65507 < a2_2.size) = true := decide_eq_true (by omega)
    clear c33
    simp only [Option.some.injEq, Prod.mk.injEq] at H
    obtain ⟨rfl, rfl⟩ := H
    have hnb34 := NB452_450.out
    have hnc34 := NB450_452.out
    have hnb35 := NB452_451.out
    have hnc35 := NB451_452.out
    have hnb36 := NB452_453.out
    have hnc36 := NB453_452.out
    have hcz37_0 := cells_3 BK452.out
    have hfz37_0 := fun j_ => blk_frozen BK452.out j_
    go_wp2
    go_ret2
    exact ⟨kE, by repeat (first | (with_reducible first | exact HB.out | apply below_alloc | apply pw_below_drewN | apply below_drew1 | refine below_set ?_ GE450.out | refine below_set ?_ GE451.out | refine below_set ?_ GE452.out | refine below_set ?_ GE453.out) | exact HB.out)⟩
   rw [if_neg c33] at H
   have c33b0 : decide (65507 < (a2_2.size : Int)) = false := decide_eq_false c33
   have c33b1 : decide (65507 < a2_2.size) = false := decide_eq_false (by omega)
   clear c33
   replace H := Option.bind_eq_some_iff.mp H
   obtain ⟨t457, A380, H⟩ := H
   replace H : ((field_Put.f kj5 a2_1 2).bind fun t458 => (if t457.size + t458.size ≤ 9223372036854775807 then ((field_Put.f kj5 (wrap64 (8 + (a2_2.size : Int))) 2).bind fun t459 => (if (t457 ++ t458).size + t459.size ≤ 9223372036854775807 then (if ((t457 ++ t458) ++ t459).size + 2 ≤ 9223372036854775807 then (if (((t457 ++ t458) ++ t459) ++ (⟨#[0, 0]⟩ : ByteArray)).size + a2_2.size ≤ 9223372036854775807 then ((udp_ends_sum.f kj5 b0 b1 b2 d0 d1 d2 ((((t457 ++ t458) ++ t459) ++ (⟨#[0, 0]⟩ : ByteArray)) ++ a2_2)).bind fun t460 => ((field_Put.f kj5 t460 2).bind fun t461 => (if ((t457 ++ t458) ++ t459).size + t461.size ≤ 9223372036854775807 then (if (((t457 ++ t458) ++ t459) ++ t461).size + a2_2.size ≤ 9223372036854775807 then (some ((((t457 ++ t458) ++ t459) ++ t461) ++ a2_2, 0)) else (none)) else (none)))) else (none)) else (none)) else (none))) else (none))) = some (r1, r2) := H
   have A38 := As A380
   clear A380
   replace H := Option.bind_eq_some_iff.mp H
   obtain ⟨t458, A390, H⟩ := H
   replace H : (if t457.size + t458.size ≤ 9223372036854775807 then ((field_Put.f kj5 (wrap64 (8 + (a2_2.size : Int))) 2).bind fun t459 => (if (t457 ++ t458).size + t459.size ≤ 9223372036854775807 then (if ((t457 ++ t458) ++ t459).size + 2 ≤ 9223372036854775807 then (if (((t457 ++ t458) ++ t459) ++ (⟨#[0, 0]⟩ : ByteArray)).size + a2_2.size ≤ 9223372036854775807 then ((udp_ends_sum.f kj5 b0 b1 b2 d0 d1 d2 ((((t457 ++ t458) ++ t459) ++ (⟨#[0, 0]⟩ : ByteArray)) ++ a2_2)).bind fun t460 => ((field_Put.f kj5 t460 2).bind fun t461 => (if ((t457 ++ t458) ++ t459).size + t461.size ≤ 9223372036854775807 then (if (((t457 ++ t458) ++ t459) ++ t461).size + a2_2.size ≤ 9223372036854775807 then (some ((((t457 ++ t458) ++ t459) ++ t461) ++ a2_2, 0)) else (none)) else (none)))) else (none)) else (none)) else (none))) else (none)) = some (r1, r2) := H
   have A39 := As A390
   clear A390
   by_cases c40 : t457.size + t458.size ≤ 9223372036854775807
   ·rw [if_pos c40] at H
    have c40b0 := eq_true c40
    have c40b1 : decide (t457.size + t458.size ≤ 9223372036854775807) = true := decide_eq_true c40
    try have c40b2 : (9223372036854775807 < t457.size + t458.size) = False := eq_false (Nat.not_lt.2 c40)
    replace H := Option.bind_eq_some_iff.mp H
    obtain ⟨t459, A410, H⟩ := H
    replace H : (if (t457 ++ t458).size + t459.size ≤ 9223372036854775807 then (if ((t457 ++ t458) ++ t459).size + 2 ≤ 9223372036854775807 then (if (((t457 ++ t458) ++ t459) ++ (⟨#[0, 0]⟩ : ByteArray)).size + a2_2.size ≤ 9223372036854775807 then ((udp_ends_sum.f kj5 b0 b1 b2 d0 d1 d2 ((((t457 ++ t458) ++ t459) ++ (⟨#[0, 0]⟩ : ByteArray)) ++ a2_2)).bind fun t460 => ((field_Put.f kj5 t460 2).bind fun t461 => (if ((t457 ++ t458) ++ t459).size + t461.size ≤ 9223372036854775807 then (if (((t457 ++ t458) ++ t459) ++ t461).size + a2_2.size ≤ 9223372036854775807 then (some ((((t457 ++ t458) ++ t459) ++ t461) ++ a2_2, 0)) else (none)) else (none)))) else (none)) else (none)) else (none)) = some (r1, r2) := H
    have A41 := As A410
    clear A410
    by_cases c42 : (t457 ++ t458).size + t459.size ≤ 9223372036854775807
    ·rw [if_pos c42] at H
     have c42b0 := eq_true c42
     have c42b1 : decide ((t457 ++ t458).size + t459.size ≤ 9223372036854775807) = true := decide_eq_true c42
     (try (have c42s0 : (9223372036854775807 < (t457.size + t458.size) + t459.size) = False := by have h_ := c42; simp only [ByteArray.size_append, ByteArray.size_extract] at h_; exact eq_false (by first | omega | (omega))))
     (try (have c42s1 : (9223372036854775807 < t457.size + t458.size + t459.size) = False := by have h_ := c42; simp only [ByteArray.size_append, ByteArray.size_extract] at h_; exact eq_false (by first | omega | (omega))))
     (try (have c42s2 : ((t457.size + t458.size) + t459.size ≤ 9223372036854775807) = True := by have h_ := c42; simp only [ByteArray.size_append, Int.natCast_add, Int.toNat_natCast] at h_; first | exact eq_true h_ | exact eq_true (by omega)))
     (try (have c42s3 : decide ((t457.size + t458.size) + t459.size ≤ 9223372036854775807) = true := by have h_ := c42; first | (simp only [ByteArray.size_append, Int.toNat_natCast] at h_; first | exact beq_iff_eq.mpr h_ | exact beq_eq_false_iff_ne.mpr h_ | exact bne_iff_ne.mpr h_ | exact bne_eq_false_iff_eq.mpr h_ | (rw [beq_iff_eq.mpr h_]; rfl) | (rw [beq_eq_false_iff_ne.mpr h_]; rfl)) | (simp only [ByteArray.size_append, Int.natCast_add, Int.toNat_natCast] at h_ ⊢; first | exact h_ | simpa using h_ | simp [h_] | omega) | (simp only [ByteArray.size_append] at h_; simp at h_ ⊢; omega) | (simp only [ByteArray.size_append, Int.natCast_add, Int.toNat_natCast] at h_; simpa using h_)))
     try have c42b2 : (9223372036854775807 < (t457 ++ t458).size + t459.size) = False := eq_false (Nat.not_lt.2 c42)
     by_cases c43 : ((t457 ++ t458) ++ t459).size + 2 ≤ 9223372036854775807
     ·rw [if_pos c43] at H
      have c43b0 := eq_true c43
      have c43b1 : decide (((t457 ++ t458) ++ t459).size + 2 ≤ 9223372036854775807) = true := decide_eq_true c43
      (try (have c43s0 : (9223372036854775807 < t457.size + t458.size + t459.size + 2) = False := by have h_ := c43; simp only [ByteArray.size_append, ByteArray.size_extract] at h_; exact eq_false (by first | omega | (omega))))
      (try (have c43s1 : (9223372036854775807 < (t457.size + t458.size + t459.size) + 2) = False := by have h_ := c43; simp only [ByteArray.size_append, ByteArray.size_extract] at h_; exact eq_false (by first | omega | (omega))))
      (try (have c43s2 : ((t457.size + t458.size + t459.size) + 2 ≤ 9223372036854775807) = True := by have h_ := c43; simp only [ByteArray.size_append, Int.natCast_add, Int.toNat_natCast] at h_; first | exact eq_true h_ | exact eq_true (by omega)))
      (try (have c43s3 : decide ((t457.size + t458.size + t459.size) + 2 ≤ 9223372036854775807) = true := by have h_ := c43; first | (simp only [ByteArray.size_append, Int.toNat_natCast] at h_; first | exact beq_iff_eq.mpr h_ | exact beq_eq_false_iff_ne.mpr h_ | exact bne_iff_ne.mpr h_ | exact bne_eq_false_iff_eq.mpr h_ | (rw [beq_iff_eq.mpr h_]; rfl) | (rw [beq_eq_false_iff_ne.mpr h_]; rfl)) | (simp only [ByteArray.size_append, Int.natCast_add, Int.toNat_natCast] at h_ ⊢; first | exact h_ | simpa using h_ | simp [h_] | omega) | (simp only [ByteArray.size_append] at h_; simp at h_ ⊢; omega) | (simp only [ByteArray.size_append, Int.natCast_add, Int.toNat_natCast] at h_; simpa using h_)))
      try have c43b2 : (9223372036854775807 < ((t457 ++ t458) ++ t459).size + 2) = False := eq_false (Nat.not_lt.2 c43)
      by_cases c44 : (((t457 ++ t458) ++ t459) ++ (⟨#[0, 0]⟩ : ByteArray)).size + a2_2.size ≤ 9223372036854775807
      ·rw [if_pos c44] at H
       have c44b0 := eq_true c44
       have c44b1 : decide ((((t457 ++ t458) ++ t459) ++ (⟨#[0, 0]⟩ : ByteArray)).size + a2_2.size ≤ 9223372036854775807) = true := decide_eq_true c44
       (try (have c44s0 : (9223372036854775807 < t457.size + t458.size + t459.size + 2 + a2_2.size) = False := by have h_ := c44; have z0_ : (⟨#[0, 0]⟩ : ByteArray).size = 2 := rfl; simp only [ByteArray.size_append, ByteArray.size_extract] at h_; exact eq_false (by first | omega | (omega))))
       (try (have c44s1 : (9223372036854775807 < (t457.size + t458.size + t459.size + 2) + a2_2.size) = False := by have h_ := c44; have z0_ : (⟨#[0, 0]⟩ : ByteArray).size = 2 := rfl; simp only [ByteArray.size_append, ByteArray.size_extract] at h_; exact eq_false (by first | omega | (omega))))
       (try (have c44s2 : ((t457.size + t458.size + t459.size + 2) + a2_2.size ≤ 9223372036854775807) = True := by have h_ := c44; simp only [ByteArray.size_append, Int.natCast_add, Int.toNat_natCast] at h_; first | exact eq_true h_ | exact eq_true (by omega)))
       (try (have c44s3 : decide ((t457.size + t458.size + t459.size + 2) + a2_2.size ≤ 9223372036854775807) = true := by have h_ := c44; first | (simp only [ByteArray.size_append, Int.toNat_natCast] at h_; first | exact beq_iff_eq.mpr h_ | exact beq_eq_false_iff_ne.mpr h_ | exact bne_iff_ne.mpr h_ | exact bne_eq_false_iff_eq.mpr h_ | (rw [beq_iff_eq.mpr h_]; rfl) | (rw [beq_eq_false_iff_ne.mpr h_]; rfl)) | (simp only [ByteArray.size_append, Int.natCast_add, Int.toNat_natCast] at h_ ⊢; first | exact h_ | simpa using h_ | simp [h_] | omega) | (simp only [ByteArray.size_append] at h_; simp at h_ ⊢; omega) | (simp only [ByteArray.size_append, Int.natCast_add, Int.toNat_natCast] at h_; simpa using h_)))
       try have c44b2 : (9223372036854775807 < (((t457 ++ t458) ++ t459) ++ (⟨#[0, 0]⟩ : ByteArray)).size + a2_2.size) = False := eq_false (Nat.not_lt.2 c44)
       replace H := Option.bind_eq_some_iff.mp H
       obtain ⟨t460, A450, H⟩ := H
       replace H : ((field_Put.f kj5 t460 2).bind fun t461 => (if ((t457 ++ t458) ++ t459).size + t461.size ≤ 9223372036854775807 then (if (((t457 ++ t458) ++ t459) ++ t461).size + a2_2.size ≤ 9223372036854775807 then (some ((((t457 ++ t458) ++ t459) ++ t461) ++ a2_2, 0)) else (none)) else (none))) = some (r1, r2) := H
       have A45 := As A450
       clear A450
       replace H := Option.bind_eq_some_iff.mp H
       obtain ⟨t461, A460, H⟩ := H
       replace H : (if ((t457 ++ t458) ++ t459).size + t461.size ≤ 9223372036854775807 then (if (((t457 ++ t458) ++ t459) ++ t461).size + a2_2.size ≤ 9223372036854775807 then (some ((((t457 ++ t458) ++ t459) ++ t461) ++ a2_2, 0)) else (none)) else (none)) = some (r1, r2) := H
       have A46 := As A460
       clear A460
       by_cases c47 : ((t457 ++ t458) ++ t459).size + t461.size ≤ 9223372036854775807
       ·rw [if_pos c47] at H
        have c47b0 := eq_true c47
        have c47b1 : decide (((t457 ++ t458) ++ t459).size + t461.size ≤ 9223372036854775807) = true := decide_eq_true c47
        (try (have c47s0 : (9223372036854775807 < t457.size + t458.size + t459.size + t461.size) = False := by have h_ := c47; simp only [ByteArray.size_append, ByteArray.size_extract] at h_; exact eq_false (by first | omega | (omega))))
        (try (have c47s1 : (9223372036854775807 < (t457.size + t458.size + t459.size) + t461.size) = False := by have h_ := c47; simp only [ByteArray.size_append, ByteArray.size_extract] at h_; exact eq_false (by first | omega | (omega))))
        (try (have c47s2 : ((t457.size + t458.size + t459.size) + t461.size ≤ 9223372036854775807) = True := by have h_ := c47; simp only [ByteArray.size_append, Int.natCast_add, Int.toNat_natCast] at h_; first | exact eq_true h_ | exact eq_true (by omega)))
        (try (have c47s3 : decide ((t457.size + t458.size + t459.size) + t461.size ≤ 9223372036854775807) = true := by have h_ := c47; first | (simp only [ByteArray.size_append, Int.toNat_natCast] at h_; first | exact beq_iff_eq.mpr h_ | exact beq_eq_false_iff_ne.mpr h_ | exact bne_iff_ne.mpr h_ | exact bne_eq_false_iff_eq.mpr h_ | (rw [beq_iff_eq.mpr h_]; rfl) | (rw [beq_eq_false_iff_ne.mpr h_]; rfl)) | (simp only [ByteArray.size_append, Int.natCast_add, Int.toNat_natCast] at h_ ⊢; first | exact h_ | simpa using h_ | simp [h_] | omega) | (simp only [ByteArray.size_append] at h_; simp at h_ ⊢; omega) | (simp only [ByteArray.size_append, Int.natCast_add, Int.toNat_natCast] at h_; simpa using h_)))
        try have c47b2 : (9223372036854775807 < ((t457 ++ t458) ++ t459).size + t461.size) = False := eq_false (Nat.not_lt.2 c47)
        by_cases c48 : (((t457 ++ t458) ++ t459) ++ t461).size + a2_2.size ≤ 9223372036854775807
        ·rw [if_pos c48] at H
         have c48b0 := eq_true c48
         have c48b1 : decide ((((t457 ++ t458) ++ t459) ++ t461).size + a2_2.size ≤ 9223372036854775807) = true := decide_eq_true c48
         (try (have c48s0 : (9223372036854775807 < t457.size + t458.size + t459.size + t461.size + a2_2.size) = False := by have h_ := c48; simp only [ByteArray.size_append, ByteArray.size_extract] at h_; exact eq_false (by first | omega | (omega))))
         (try (have c48s1 : (9223372036854775807 < (t457.size + t458.size + t459.size + t461.size) + a2_2.size) = False := by have h_ := c48; simp only [ByteArray.size_append, ByteArray.size_extract] at h_; exact eq_false (by first | omega | (omega))))
         (try (have c48s2 : ((t457.size + t458.size + t459.size + t461.size) + a2_2.size ≤ 9223372036854775807) = True := by have h_ := c48; simp only [ByteArray.size_append, Int.natCast_add, Int.toNat_natCast] at h_; first | exact eq_true h_ | exact eq_true (by omega)))
         (try (have c48s3 : decide ((t457.size + t458.size + t459.size + t461.size) + a2_2.size ≤ 9223372036854775807) = true := by have h_ := c48; first | (simp only [ByteArray.size_append, Int.toNat_natCast] at h_; first | exact beq_iff_eq.mpr h_ | exact beq_eq_false_iff_ne.mpr h_ | exact bne_iff_ne.mpr h_ | exact bne_eq_false_iff_eq.mpr h_ | (rw [beq_iff_eq.mpr h_]; rfl) | (rw [beq_eq_false_iff_ne.mpr h_]; rfl)) | (simp only [ByteArray.size_append, Int.natCast_add, Int.toNat_natCast] at h_ ⊢; first | exact h_ | simpa using h_ | simp [h_] | omega) | (simp only [ByteArray.size_append] at h_; simp at h_ ⊢; omega) | (simp only [ByteArray.size_append, Int.natCast_add, Int.toNat_natCast] at h_; simpa using h_)))
         try have c48b2 : (9223372036854775807 < (((t457 ++ t458) ++ t459) ++ t461).size + a2_2.size) = False := eq_false (Nat.not_lt.2 c48)
         simp only [Option.some.injEq, Prod.mk.injEq] at H
         obtain ⟨rfl, rfl⟩ := H
         have hnb49 := NB452_450.out
         have hnc49 := NB450_452.out
         have hnb50 := NB452_451.out
         have hnc50 := NB451_452.out
         have hnb51 := NB452_453.out
         have hnc51 := NB453_452.out
         have hcz52_0 := cells_3 BK452.out
         have hfz52_0 := fun j_ => blk_frozen BK452.out j_
         try go_wp2
         replace BK450 := As (blk_drew BK450.out)
         replace BK451 := As (blk_drew BK451.out)
         replace BK452 := As (blk_drew BK452.out)
         replace BK453 := As (blk_drew BK453.out)
         replace HB := As (below_drew1 HB.out)
         refine start_ (n := 14) (S := fun w' => w'.cell? ⟨gb452, 0, none⟩ = some (.int .i64 a2_0) ∧ w'.cell? ⟨gb452, 1, none⟩ = some (.int .i64 a2_1) ∧ w'.cell? ⟨gb452, 2, none⟩ = some (.string a2_2)) (ds := []) #[O, O, O, O, O, O, O, O, O, O, O, O, O, O] (by kernel_rfl) rfl rfl ⟨kC BK452.out 0, kC BK452.out 1, kC BK452.out 2⟩ (fun hHeld => ?_); refine with_tabW udp_Encode.tab8 udp_Encode.bits8 (fun HT_ HW_ => ?_)
         generalize wc.drew = w53 at BK450 BK451 BK452 BK453 HB hHeld ⊢
         refine kP 0 33 #[I, O, O, O, O, O, O, O, O, O, O, O, O, O] ?_ (any_of HT_.out (by kernel_rfl))
         refine kP 3 36 #[I, O, O, I, O, O, O, O, O, O, O, O, O, O] ?_ (any_of HT_.out (by kernel_rfl))
         refine kP 7 40 #[I, O, O, I, O, O, O, I, O, O, O, O, O, O] ?_ (any_of HT_.out (by kernel_rfl))
         refine take_ (i := 1) (N := some 34) (v := ?_) (a' := ?_) #[I, I, O, I, O, O, O, I, O, O, O, O, O, O] rfl rfl (take_ofW HT_.out HW_.out (by kernel_rfl)) (fun _ _ _ h => h) (Or.inl ⟨by rfl, ?_⟩) hHeld ?_ ?_
         rotate_left
         ·rintro w' ⟨s0, s1, s2⟩
          go_simp
          with_reducible rfl
         rotate_left
         ·simp only [Act.put, sA, sZ, sS, i64_w, i32_w]
          rfl
         refine take_ (i := 4) (N := some 37) (v := ?_) (a' := ?_) #[I, I, O, I, I, O, O, I, O, O, O, O, O, O] rfl rfl (take_ofW HT_.out HW_.out (by kernel_rfl)) (fun _ _ _ h => h) (Or.inl ⟨by rfl, ?_⟩) hHeld ?_ ?_
         rotate_left
         ·rintro w' ⟨s0, s1, s2⟩
          go_simp
          with_reducible rfl
         rotate_left
         ·simp only [Act.put, sA, sZ, sS, i64_w, i32_w]
          rfl
         refine take_ (i := 8) (N := some 41) (v := ?_) (a' := ?_) #[I, I, O, I, I, O, O, I, I, O, O, O, O, O] rfl rfl (take_ofW HT_.out HW_.out (by kernel_rfl)) (fun _ _ _ h => h) (Or.inl ⟨by rfl, ?_⟩) hHeld ?_ ?_
         rotate_left
         ·rintro w' ⟨s0, s1, s2⟩
          go_simp
          with_reducible rfl
         rotate_left
         ·simp only [Act.put, sA, sZ, sS, i64_w, i32_w]
          rfl
         refine kP 9 42 #[I, I, O, I, I, O, O, I, I, I, O, O, O, O] ?_ (any_of HT_.out (by kernel_rfl))
         refine kP 10 43 #[I, I, O, I, I, O, O, I, I, I, I, O, O, O] ?_ (any_of HT_.out (by kernel_rfl))
         refine one_ (i := 2) (N := some 35) #[I, I, I, I, I, O, O, I, I, I, I, O, O, O] rfl rfl (one_of HT_.out (by kernel_rfl)) (by decide) (fun K hK => ?_)
         refine goes_ Tryd.func27 (by kernel_rfl) rfl #[.int .i64 a2_0, .int .i64 2] (by rfl) rfl rfl kA ?_
         with_reducible refine (field_Put.calls kj5 a2_0 2 t457 _ A38.out).mono ?_
         rintro e w54 ⟨rfl, hb⟩
         refine ⟨_, rfl, ?_⟩
         replace BK450 := As (blk_below (kb BK450.out) hb)
         replace BK451 := As (blk_below (kb BK451.out) hb)
         replace BK452 := As (blk_below (kb BK452.out) hb)
         replace BK453 := As (blk_below (kb BK453.out) hb)
         replace HB := As (below_step (by repeat (first | (with_reducible first | exact HB.out | apply below_alloc | apply pw_below_drewN | apply below_drew1 | refine below_set ?_ GE450.out | refine below_set ?_ GE451.out | refine below_set ?_ GE452.out | refine below_set ?_ GE453.out) | exact HB.out)) hb)
         (try clear hb)
         (try clear hb2)
         (try clear hk)
         (try clear hi)
         refine hK.out _ _ ⟨kC BK452.out 0, kC BK452.out 1, kC BK452.out 2⟩ (fun hHeld => ?_)
         clear hK K
         refine norm_ (a' := ?_) ?_ ?_
         rotate_left
         ·show Act.put _ (some 35) _ = _
          simp only [Act.put, sA, sZ, sS, i64_w, i32_w]
          rfl
         refine one_ (i := 5) (N := some 38) #[I, I, I, I, I, I, O, I, I, I, I, O, O, O] rfl rfl (one_of HT_.out (by kernel_rfl)) (by decide) (fun K hK => ?_)
         refine goes_ Tryd.func27 (by kernel_rfl) rfl #[.int .i64 a2_1, .int .i64 2] (by rfl) rfl rfl kA ?_
         with_reducible refine (field_Put.calls kj5 a2_1 2 t458 _ A39.out).mono ?_
         rintro e w55 ⟨rfl, hb⟩
         refine ⟨_, rfl, ?_⟩
         replace BK450 := As (blk_below (kb BK450.out) hb)
         replace BK451 := As (blk_below (kb BK451.out) hb)
         replace BK452 := As (blk_below (kb BK452.out) hb)
         replace BK453 := As (blk_below (kb BK453.out) hb)
         replace HB := As (below_step (by repeat (first | (with_reducible first | exact HB.out | apply below_alloc | apply pw_below_drewN | apply below_drew1 | refine below_set ?_ GE450.out | refine below_set ?_ GE451.out | refine below_set ?_ GE452.out | refine below_set ?_ GE453.out) | exact HB.out)) hb)
         (try clear hb)
         (try clear hb2)
         (try clear hk)
         (try clear hi)
         refine hK.out _ _ ⟨kC BK452.out 0, kC BK452.out 1, kC BK452.out 2⟩ (fun hHeld => ?_)
         clear hK K
         refine norm_ (a' := ?_) ?_ ?_
         rotate_left
         ·show Act.put _ (some 38) _ = _
          simp only [Act.put, sA, sZ, sS, i64_w, i32_w]
          rfl
         refine kP 6 39 #[I, I, I, I, I, I, I, I, I, I, I, O, O, O] ?_ (any_of HT_.out (by kernel_rfl))
         refine one_ (i := 11) (N := some 44) #[I, I, I, I, I, I, I, I, I, I, I, I, O, O] rfl rfl (one_of HT_.out (by kernel_rfl)) (by decide) (fun K hK => ?_)
         refine goes_ Tryd.func27 (by kernel_rfl) rfl #[.int .i64 (wrap64 (8 + (a2_2.size : Int))), .int .i64 2] (by rfl) rfl rfl kA ?_
         with_reducible refine (field_Put.calls kj5 (wrap64 (8 + (a2_2.size : Int))) 2 t459 _ A41.out).mono ?_
         rintro e w56 ⟨rfl, hb⟩
         refine ⟨_, rfl, ?_⟩
         replace BK450 := As (blk_below (kb BK450.out) hb)
         replace BK451 := As (blk_below (kb BK451.out) hb)
         replace BK452 := As (blk_below (kb BK452.out) hb)
         replace BK453 := As (blk_below (kb BK453.out) hb)
         replace HB := As (below_step (by repeat (first | (with_reducible first | exact HB.out | apply below_alloc | apply pw_below_drewN | apply below_drew1 | refine below_set ?_ GE450.out | refine below_set ?_ GE451.out | refine below_set ?_ GE452.out | refine below_set ?_ GE453.out) | exact HB.out)) hb)
         (try clear hb)
         (try clear hb2)
         (try clear hk)
         (try clear hi)
         refine hK.out _ _ ⟨kC BK452.out 0, kC BK452.out 1, kC BK452.out 2⟩ (fun hHeld => ?_)
         clear hK K
         refine norm_ (a' := ?_) ?_ ?_
         rotate_left
         ·show Act.put _ (some 44) _ = _
          simp only [Act.put, sA, sZ, sS, i64_w, i32_w]
          rfl
         refine kP 12 45 #[I, I, I, I, I, I, I, I, I, I, I, I, I, O] ?_ (any_of HT_.out (by kernel_rfl))
         refine kP 13 9 #[I, I, I, I, I, I, I, I, I, I, I, I, I, I] ?_ (any_of HT_.out (by kernel_rfl))
         refine done_ (done_of HT_.out (by kernel_rfl)) ?_
         try go_wp2
         replace BK450 := As (blk_drew BK450.out)
         replace BK451 := As (blk_drew BK451.out)
         replace BK452 := As (blk_drew BK452.out)
         replace BK453 := As (blk_drew BK453.out)
         replace HB := As (below_drew1 HB.out)
         refine start_ (n := 15) (S := fun w' => w'.cell? ⟨gb453, 0, none⟩ = some (.bool b0) ∧ w'.cell? ⟨gb453, 1, none⟩ = some (.int .u64 b1) ∧ w'.cell? ⟨gb453, 2, none⟩ = some (.int .u64 b2) ∧ w'.cell? ⟨gb453, 3, none⟩ = some (.bool d0) ∧ w'.cell? ⟨gb453, 4, none⟩ = some (.int .u64 d1) ∧ w'.cell? ⟨gb453, 5, none⟩ = some (.int .u64 d2) ∧ w'.cell? ⟨gb452, 0, none⟩ = some (.int .i64 a2_0) ∧ w'.cell? ⟨gb452, 1, none⟩ = some (.int .i64 a2_1) ∧ w'.cell? ⟨gb452, 2, none⟩ = some (.string a2_2)) (ds := []) #[O, O, O, O, O, O, O, O, O, O, O, O, O, O, O] (by kernel_rfl) rfl rfl ⟨kC BK453.out 0, kC BK453.out 1, kC BK453.out 2, kC BK453.out 3, kC BK453.out 4, kC BK453.out 5, kC BK452.out 0, kC BK452.out 1, kC BK452.out 2⟩ (fun hHeld => ?_); refine with_tabW udp_Encode.tab9 udp_Encode.bits9 (fun HT_ HW_ => ?_)
         generalize w56.drew = w57 at BK450 BK451 BK452 BK453 HB hHeld ⊢
         refine kP 0 46 #[I, O, O, O, O, O, O, O, O, O, O, O, O, O, O] ?_ (any_of HT_.out (by kernel_rfl))
         refine kP 2 48 #[I, O, I, O, O, O, O, O, O, O, O, O, O, O, O] ?_ (any_of HT_.out (by kernel_rfl))
         refine kP 3 49 #[I, O, I, I, O, O, O, O, O, O, O, O, O, O, O] ?_ (any_of HT_.out (by kernel_rfl))
         refine kP 4 50 #[I, O, I, I, I, O, O, O, O, O, O, O, O, O, O] ?_ (any_of HT_.out (by kernel_rfl))
         refine kP 10 56 #[I, O, I, I, I, O, O, O, O, O, I, O, O, O, O] ?_ (any_of HT_.out (by kernel_rfl))
         refine take_ (i := 1) (N := some 47) (v := ?_) (a' := ?_) #[I, I, I, I, I, O, O, O, O, O, I, O, O, O, O] rfl rfl (take_ofW HT_.out HW_.out (by kernel_rfl)) (fun _ _ _ h => h) (Or.inl ⟨by rfl, ?_⟩) hHeld ?_ ?_
         rotate_left
         ·rintro w' ⟨s0, s1, s2, s3, s4, s5, s6, s7, s8⟩
          go_simp
          with_reducible rfl
         rotate_left
         ·simp only [Act.put, sA, sZ, sS, i64_w, i32_w]
          rfl
         refine take_ (i := 5) (N := some 51) (v := ?_) (a' := ?_) #[I, I, I, I, I, I, O, O, O, O, I, O, O, O, O] rfl rfl (take_ofW HT_.out HW_.out (by kernel_rfl)) (fun _ _ _ h => h) (Or.inl ⟨by rfl, ?_⟩) hHeld ?_ ?_
         rotate_left
         ·rintro w' ⟨s0, s1, s2, s3, s4, s5, s6, s7, s8⟩
          go_simp
          with_reducible rfl
         rotate_left
         ·simp only [Act.put, sA, sZ, sS, i64_w, i32_w]
          rfl
         refine kP 6 52 #[I, I, I, I, I, I, I, O, O, O, I, O, O, O, O] ?_ (any_of HT_.out (by kernel_rfl))
         refine take_ (i := 11) (N := some 57) (v := ?_) (a' := ?_) #[I, I, I, I, I, I, I, O, O, O, I, I, O, O, O] rfl rfl (take_ofW HT_.out HW_.out (by kernel_rfl)) (fun _ _ _ h => h) (Or.inl ⟨by rfl, ?_⟩) hHeld ?_ ?_
         rotate_left
         ·rintro w' ⟨s0, s1, s2, s3, s4, s5, s6, s7, s8⟩
          go_simp
          with_reducible rfl
         rotate_left
         ·simp only [Act.put, sA, sZ, sS, i64_w, i32_w]
          rfl
         refine one_ (i := 7) (N := some 53) #[I, I, I, I, I, I, I, I, O, O, I, I, O, O, O] rfl rfl (one_of HT_.out (by kernel_rfl)) (by decide) (fun K hK => ?_)
         refine goes_ Tryd.func92 (by kernel_rfl) rfl #[.agg #[.bool b0, .int .u64 b1, .int .u64 b2, .bool d0, .int .u64 d1, .int .u64 d2], .string ((((t457 ++ t458) ++ t459) ++ (⟨#[0, 0]⟩ : ByteArray)) ++ a2_2)] (by rfl) rfl rfl kA ?_
         with_reducible refine (udp_ends_sum.calls kj5 b0 b1 b2 d0 d1 d2 ((((t457 ++ t458) ++ t459) ++ (⟨#[0, 0]⟩ : ByteArray)) ++ a2_2) t460 _ ?side1 A45.out).mono ?_
         (case side1 => exact laid_below HLD.out (by repeat (first | (with_reducible first | exact HB.out | apply below_alloc | apply pw_below_drewN | apply below_drew1 | refine below_set ?_ GE450.out | refine below_set ?_ GE451.out | refine below_set ?_ GE452.out | refine below_set ?_ GE453.out) | exact HB.out)))
         rintro e w58 ⟨rfl, hb⟩
         refine ⟨_, rfl, ?_⟩
         replace BK450 := As (blk_below (kb BK450.out) hb)
         replace BK451 := As (blk_below (kb BK451.out) hb)
         replace BK452 := As (blk_below (kb BK452.out) hb)
         replace BK453 := As (blk_below (kb BK453.out) hb)
         replace HB := As (below_step (by repeat (first | (with_reducible first | exact HB.out | apply below_alloc | apply pw_below_drewN | apply below_drew1 | refine below_set ?_ GE450.out | refine below_set ?_ GE451.out | refine below_set ?_ GE452.out | refine below_set ?_ GE453.out) | exact HB.out)) hb)
         (try clear hb)
         (try clear hb2)
         (try clear hk)
         (try clear hi)
         refine hK.out _ _ ⟨kC BK453.out 0, kC BK453.out 1, kC BK453.out 2, kC BK453.out 3, kC BK453.out 4, kC BK453.out 5, kC BK452.out 0, kC BK452.out 1, kC BK452.out 2⟩ (fun hHeld => ?_)
         clear hK K
         refine norm_ (a' := ?_) ?_ ?_
         rotate_left
         ·show Act.put _ (some 53) _ = _
          simp only [Act.put, sA, sZ, sS, i64_w, i32_w]
          rfl
         refine one_ (i := 8) (N := some 54) #[I, I, I, I, I, I, I, I, I, O, I, I, O, O, O] rfl rfl (one_of HT_.out (by kernel_rfl)) (by decide) (fun K hK => ?_)
         refine goes_ Tryd.func27 (by kernel_rfl) rfl #[.int .i64 t460, .int .i64 2] (by rfl) rfl rfl kA ?_
         with_reducible refine (field_Put.calls kj5 t460 2 t461 _ A46.out).mono ?_
         rintro e w59 ⟨rfl, hb⟩
         refine ⟨_, rfl, ?_⟩
         replace BK450 := As (blk_below (kb BK450.out) hb)
         replace BK451 := As (blk_below (kb BK451.out) hb)
         replace BK452 := As (blk_below (kb BK452.out) hb)
         replace BK453 := As (blk_below (kb BK453.out) hb)
         replace HB := As (below_step (by repeat (first | (with_reducible first | exact HB.out | apply below_alloc | apply pw_below_drewN | apply below_drew1 | refine below_set ?_ GE450.out | refine below_set ?_ GE451.out | refine below_set ?_ GE452.out | refine below_set ?_ GE453.out) | exact HB.out)) hb)
         (try clear hb)
         (try clear hb2)
         (try clear hk)
         (try clear hi)
         refine hK.out _ _ ⟨kC BK453.out 0, kC BK453.out 1, kC BK453.out 2, kC BK453.out 3, kC BK453.out 4, kC BK453.out 5, kC BK452.out 0, kC BK452.out 1, kC BK452.out 2⟩ (fun hHeld => ?_)
         clear hK K
         refine norm_ (a' := ?_) ?_ ?_
         rotate_left
         ·show Act.put _ (some 54) _ = _
          simp only [Act.put, sA, sZ, sS, i64_w, i32_w]
          rfl
         refine kP 9 55 #[I, I, I, I, I, I, I, I, I, I, I, I, O, O, O] ?_ (any_of HT_.out (by kernel_rfl))
         refine kP 12 58 #[I, I, I, I, I, I, I, I, I, I, I, I, I, O, O] ?_ (any_of HT_.out (by kernel_rfl))
         refine kP 13 6 #[I, I, I, I, I, I, I, I, I, I, I, I, I, I, O] ?_ (any_of HT_.out (by kernel_rfl))
         refine kP 14 7 #[I, I, I, I, I, I, I, I, I, I, I, I, I, I, I] ?_ (any_of HT_.out (by kernel_rfl))
         refine done_ (done_of HT_.out (by kernel_rfl)) ?_
         try go_wp2
         go_ret2
         exact ⟨kE, by repeat (first | (with_reducible first | exact HB.out | apply below_alloc | apply pw_below_drewN | apply below_drew1 | refine below_set ?_ GE450.out | refine below_set ?_ GE451.out | refine below_set ?_ GE452.out | refine below_set ?_ GE453.out) | exact HB.out)⟩
        rw [if_neg c48] at H
        exact absurd H (by simp)
       rw [if_neg c47] at H
       exact absurd H (by simp)
      rw [if_neg c44] at H
      exact absurd H (by simp)
     rw [if_neg c43] at H
     exact absurd H (by simp)
    rw [if_neg c42] at H
    exact absurd H (by simp)
   rw [if_neg c40] at H
   exact absurd H (by simp)
 replace c5 := Bool.eq_false_iff.mpr c5
 subst c5
 have H1 : (some ((⟨#[]⟩ : ByteArray), 13)) = some (r1, r2) := by rw [if_neg (show ¬ (false = true) by decide)] at H; exact H
 clear H
 have H := H1
 clear H1
 simp only [Option.some.injEq, Prod.mk.injEq] at H
 obtain ⟨rfl, rfl⟩ := H
 go_enter Tryd.func51, Tryd.ntmps51
 go_wp2_with (first | ((with_reducible refine gate_dst (N := 3) rfl ?_); refine box_event rfl (N := 3) rfl (cs := #[.bool b0, .int .u64 b1, .int .u64 b2]) (t := 24) kG ?_; intro gb450 hg w60 hbox hb; have BK450 := As (hbox); have GW450 := As ((by rw [hg]; exact (below_size (kB HB.out)) : w.heap.size ≤ gb450)); have GE450 := As ((by rw [hg]; exact (below_size (kB HB.out)) : w.heap.size ≤ gb450)); replace HB := As (below_step (kB HB.out) hb); clear hb hbox hg) | ((with_reducible refine gate_dst (N := 4) rfl ?_); refine box_event rfl (N := 4) rfl (cs := #[.bool d0, .int .u64 d1, .int .u64 d2]) (t := 24) kG ?_; intro gb451 hg w61 hbox hb; have BK451 := As (hbox); have GW451 := As ((by rw [hg]; exact (below_size (kB1 HB.out GE450.out)) : w.heap.size ≤ gb451)); have GE451 := As ((by rw [hg]; exact (below_size (kB1 HB.out GE450.out)) : w.heap.size ≤ gb451)); replace HB := As (below_step (kB1 HB.out GE450.out) hb); have NB450_451 := As ((by rw [hg]; exact Nat.ne_of_lt (blk_lt (kb BK450.out)) : gb450 ≠ gb451)); have NB451_450 := As ((by rw [hg]; exact Nat.ne_of_gt (blk_lt (kb BK450.out)) : gb451 ≠ gb450)); replace BK450 := As (blk_below (kb BK450.out) hb); clear hb hbox hg) | ((with_reducible refine gate_dst (N := 5) rfl ?_); refine box_event rfl (N := 5) rfl (cs := #[.int .i64 a2_0, .int .i64 a2_1, .string a2_2]) (t := 85) kG ?_; intro gb452 hg w62 hbox hb; have BK452 := As (hbox); have GW452 := As ((by rw [hg]; exact (below_size (kB2 HB.out GE450.out GE451.out)) : w.heap.size ≤ gb452)); have GE452 := As ((by rw [hg]; exact (below_size (kB2 HB.out GE450.out GE451.out)) : w.heap.size ≤ gb452)); replace HB := As (below_step (kB2 HB.out GE450.out GE451.out) hb); have NB450_452 := As ((by rw [hg]; exact Nat.ne_of_lt (blk_lt (kb BK450.out)) : gb450 ≠ gb452)); have NB452_450 := As ((by rw [hg]; exact Nat.ne_of_gt (blk_lt (kb BK450.out)) : gb452 ≠ gb450)); replace BK450 := As (blk_below (kb BK450.out) hb); have NB451_452 := As ((by rw [hg]; exact Nat.ne_of_lt (blk_lt (kb BK451.out)) : gb451 ≠ gb452)); have NB452_451 := As ((by rw [hg]; exact Nat.ne_of_gt (blk_lt (kb BK451.out)) : gb452 ≠ gb451)); replace BK451 := As (blk_below (kb BK451.out) hb); clear hb hbox hg; have hnb63 := NB450_451.out; have hnc63 := NB451_450.out; have hnb64 := NB450_452.out; have hnc64 := NB452_450.out; have hcz65_0 := cells_3 BK450.out; have hfz65_0 := fun j_ => blk_frozen BK450.out j_; have hnb66 := NB451_452.out; have hnc66 := NB452_451.out; have hcz67_0 := cells_3 BK451.out; have hfz67_0 := fun j_ => blk_frozen BK451.out j_) | ((with_reducible refine gate_dst (N := 8) rfl ?_); refine box_event rfl (N := 8) rfl (cs := #[.bool false, .int .u64 0, .int .u64 0, .bool false, .int .u64 0, .int .u64 0]) (t := 118) kG ?_; intro gb453 hg w68 hbox hb; have BK453 := As (hbox); have GW453 := As ((by rw [hg]; exact (below_size (kB3 HB.out GE450.out GE451.out GE452.out)) : w.heap.size ≤ gb453)); have GE453 := As ((by rw [hg]; exact (below_size (kB3 HB.out GE450.out GE451.out GE452.out)) : w.heap.size ≤ gb453)); replace HB := As (below_step (kB3 HB.out GE450.out GE451.out GE452.out) hb); have NB450_453 := As ((by rw [hg]; exact Nat.ne_of_lt (blk_lt (kb BK450.out)) : gb450 ≠ gb453)); have NB453_450 := As ((by rw [hg]; exact Nat.ne_of_gt (blk_lt (kb BK450.out)) : gb453 ≠ gb450)); replace BK450 := As (blk_below (kb BK450.out) hb); have NB451_453 := As ((by rw [hg]; exact Nat.ne_of_lt (blk_lt (kb BK451.out)) : gb451 ≠ gb453)); have NB453_451 := As ((by rw [hg]; exact Nat.ne_of_gt (blk_lt (kb BK451.out)) : gb453 ≠ gb451)); replace BK451 := As (blk_below (kb BK451.out) hb); have NB452_453 := As ((by rw [hg]; exact Nat.ne_of_lt (blk_lt (kb BK452.out)) : gb452 ≠ gb453)); have NB453_452 := As ((by rw [hg]; exact Nat.ne_of_gt (blk_lt (kb BK452.out)) : gb453 ≠ gb452)); replace BK452 := As (blk_below (kb BK452.out) hb); clear hb hbox hg; have hnb69 := NB453_450.out; have hnc69 := NB450_453.out; have hnb70 := NB453_451.out; have hnc70 := NB451_453.out; have hnb71 := NB453_452.out; have hnc71 := NB452_453.out; have hcz72_0 := cells_6 BK453.out; have hfz72_0 := fun j_ => blk_frozen BK453.out j_) | ((with_reducible refine gate_callee (f := 90) rfl ?_); refine goesL_ (some 15) rfl rfl Tryd.func90 (by kernel_rfl) rfl #[.agg #[.bool b0, .int .u64 b1, .int .u64 b2, .bool d0, .int .u64 d1, .int .u64 d2]] rfl kA ?_; (with_reducible refine (udp_ends_fit.calls b0 b1 b2 d0 d1 d2 false _ A4.out).mono ?_); rintro e w73 ⟨rfl, hb⟩; refine ⟨_, rfl, ?_⟩; replace BK450 := As (blk_below (g := gb450) (o := .cells #[.bool b0, .int .u64 b1, .int .u64 b2] 24 (0, 0)) (by refine kb ?_; (iterate 6 (refine blk_far ?_ NB450_453.out _; refine kb ?_)); exact BK450.out) hb); replace BK451 := As (blk_below (g := gb451) (o := .cells #[.bool d0, .int .u64 d1, .int .u64 d2] 24 (0, 0)) (by refine kb ?_; (iterate 6 (refine blk_far ?_ NB451_453.out _; refine kb ?_)); exact BK451.out) hb); replace BK452 := As (blk_below (g := gb452) (o := .cells #[.int .i64 a2_0, .int .i64 a2_1, .string a2_2] 85 (0, 0)) (by refine kb ?_; (iterate 6 (refine blk_far ?_ NB452_453.out _; refine kb ?_)); exact BK452.out) hb); replace BK453 := As (blk_below (g := gb453) (o := .cells #[.bool b0, .int .u64 b1, .int .u64 b2, .bool d0, .int .u64 d1, .int .u64 d2] 118 (0, 0)) (by refine kb ?_; exact blk_all_6 (kb BK453.out) (by rfl)) hb); replace HB := As (below_step (by repeat (first | (with_reducible first | exact HB.out | apply below_alloc | apply pw_below_drewN | apply below_drew1 | refine below_set ?_ GE450.out | refine below_set ?_ GE451.out | refine below_set ?_ GE452.out | refine below_set ?_ GE453.out) | exact HB.out)) hb); (try clear hb)))
 go_ret2
 exact ⟨kE, by repeat (first | (with_reducible first | exact HB.out | apply below_alloc | apply pw_below_drewN | apply below_drew1 | refine below_set ?_ GE450.out | refine below_set ?_ GE451.out | refine below_set ?_ GE452.out | refine below_set ?_ GE453.out) | exact HB.out)⟩

end Go.Proofs.YtocobalkikkhlaaDoor.X
-- short
