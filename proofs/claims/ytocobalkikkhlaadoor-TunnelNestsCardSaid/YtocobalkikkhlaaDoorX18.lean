/- Functions and their walks, printed by xprint.py. -/
import Derived.Test.YtocobalkikkhlaaDoorX0
import Derived.Test.YtocobalkikkhlaaDoorX15
import Derived.Test.YtocobalkikkhlaaDoorX17
namespace Go.Proofs.YtocobalkikkhlaaDoor.X
open Go.RowKit Go.Proofs.YtocobalkikkhlaaDoorW.PrintWords Go.Proofs.YtocobalkikkhlaaDoorW.PrintLast Go.Proofs.YtocobalkikkhlaaDoorW.PrintMore
attribute [local go_sem] max2_int min2_int max_two min_two max_three min_three max_four min_four   -- for this text's walks alone
set_option linter.unusedVariables false
set_option linter.unusedSimpArgs false

/-! ### intrusionlaw17_taken: function 16 -/
def intrusionlaw17_taken.f (k : Nat) (a0 : ByteArray) : Option (Bool × Int × Int × Bool × Int × Int × Int × Int × ByteArray × Bool) := if a0.toList = ([] : List UInt8) then (some (false, 0, 0, false, 0, 0, 0, 0, (⟨#[]⟩ : ByteArray), false)) else (if 0 < (a0.size : Int) then (if ((Int.tdiv (bt a0 0) 16) % 256) = 4 then ((ipv4_Decode.f k a0).bind fun bt501 => (if bt501.2.2.2.2.2.2.2.2.2.2.2.2.2.2.2 = 0 then ((ipv4_Fragment.f bt501.1 bt501.2.1 bt501.2.2.1 bt501.2.2.2.1 bt501.2.2.2.2.1 bt501.2.2.2.2.2.1 bt501.2.2.2.2.2.2.1 bt501.2.2.2.2.2.2.2.1 bt501.2.2.2.2.2.2.2.2.1 bt501.2.2.2.2.2.2.2.2.2.1 bt501.2.2.2.2.2.2.2.2.2.2.1 bt501.2.2.2.2.2.2.2.2.2.2.2.1 bt501.2.2.2.2.2.2.2.2.2.2.2.2.1 bt501.2.2.2.2.2.2.2.2.2.2.2.2.2.1 bt501.2.2.2.2.2.2.2.2.2.2.2.2.2.2.1).bind fun bt520 => (if bt520.2.2.2.2.2.2.2.2.2.1 = 0 then (some (bt520.1, bt520.2.1, bt520.2.2.1, bt520.2.2.2.1, bt520.2.2.2.2.1, bt520.2.2.2.2.2.1, bt520.2.2.2.2.2.2.1, bt520.2.2.2.2.2.2.2.2.1, bt520.2.2.2.2.2.2.2.2.2.2.2, !bt520.2.2.2.2.2.2.2.2.2.2.1)) else (some (bt520.1, bt520.2.1, bt520.2.2.1, bt520.2.2.2.1, bt520.2.2.2.2.1, bt520.2.2.2.2.2.1, bt520.2.2.2.2.2.2.1, bt520.2.2.2.2.2.2.2.2.1, bt520.2.2.2.2.2.2.2.2.2.2.2, false)))) else (some (false, 0, 0, false, 0, 0, 0, 0, (⟨#[]⟩ : ByteArray), false)))) else ((ipv6_Decode.f k a0).bind fun bt532 => (if bt532.2.2.2.2.2.2.2.2.2.2.2.2.2.2.2.2 = 0 then ((ipv6_Fragment.f bt532.1 bt532.2.1 bt532.2.2.1 bt532.2.2.2.1 bt532.2.2.2.2.1 bt532.2.2.2.2.2.1 bt532.2.2.2.2.2.2.1 bt532.2.2.2.2.2.2.2.1 bt532.2.2.2.2.2.2.2.2.1 bt532.2.2.2.2.2.2.2.2.2.1 bt532.2.2.2.2.2.2.2.2.2.2.1 bt532.2.2.2.2.2.2.2.2.2.2.2.1 bt532.2.2.2.2.2.2.2.2.2.2.2.2.1 bt532.2.2.2.2.2.2.2.2.2.2.2.2.2.1 bt532.2.2.2.2.2.2.2.2.2.2.2.2.2.2.1 bt532.2.2.2.2.2.2.2.2.2.2.2.2.2.2.2.1).bind fun bt552 => (if bt552.2.2.2.2.2.2.2.2.2.1 = 0 then (some (bt552.1, bt552.2.1, bt552.2.2.1, bt552.2.2.2.1, bt552.2.2.2.2.1, bt552.2.2.2.2.2.1, bt552.2.2.2.2.2.2.1, bt552.2.2.2.2.2.2.2.2.1, bt552.2.2.2.2.2.2.2.2.2.2.2, !bt552.2.2.2.2.2.2.2.2.2.2.1)) else (some (bt552.1, bt552.2.1, bt552.2.2.1, bt552.2.2.2.1, bt552.2.2.2.2.1, bt552.2.2.2.2.2.1, bt552.2.2.2.2.2.2.1, bt552.2.2.2.2.2.2.2.2.1, bt552.2.2.2.2.2.2.2.2.2.2.2, false)))) else (some (false, 0, 0, false, 0, 0, 0, 0, (⟨#[]⟩ : ByteArray), false))))) else (none))
theorem intrusionlaw17_taken.mono : ∀ a0 k, LeO (intrusionlaw17_taken.f k a0) (intrusionlaw17_taken.f (k + 1) a0) := by
 intro a0 k
 unfold intrusionlaw17_taken.f
 repeat' first | with_reducible first | apply ipv4_Decode.mono | apply ipv6_Decode.mono | apply LeO.refl | apply LeO.none | refine LeO.ite ?_ ?_ | refine LeO.bind ?_ (fun _ => ?_)
def intrusionlaw17_taken.T13 : Bool × List (List Nat × List Nat) := (true, [([], []), ([0], [0]), ([], []), ([2], [2]), ([], []), ([4], [4]), ([], []), ([6], [6]), ([], []), ([8], [8]), ([1, 3, 5, 7, 9], [1, 3, 5, 7, 9]), ([], []), ([11], [11]), ([12], [12]), ([13], [13]), ([14], [14]), ([15, 14], [14, 15]), ([16, 14], [14, 16]), ([14, 17], [14, 17]), ([10, 14, 0, 1, 2, 3, 4, 5, 6, 7, 8, 9, 10], [10]), ([18, 19, 0, 1, 2, 3, 4, 5, 6, 7, 8, 9, 10, 11, 12, 13, 14, 15, 16, 17, 18, 19], [18])])
def intrusionlaw17_taken.B13 : List Nat := [0, 1, 0, 4, 0, 16, 0, 64, 0, 256, 1023, 0, 2048, 6144, 14336, 30720, 63488, 129024, 260096, 32767, 1048575]
theorem intrusionlaw17_taken.tab13 : rtab .any (opsOf Tryd.f16 13) = intrusionlaw17_taken.T13 := by kernel_rfl
theorem intrusionlaw17_taken.bits13 : waitsOk intrusionlaw17_taken.T13.2 intrusionlaw17_taken.B13 = true := by kernel_rfl
set_option maxHeartbeats 8000000 in
set_option maxRecDepth 100000 in
theorem intrusionlaw17_taken.calls (k : Nat) (a0 : ByteArray) (r1 : Bool) (r2 : Int) (r3 : Int) (r4 : Bool) (r5 : Int) (r6 : Int) (r7 : Int) (r8 : Int) (r9 : ByteArray) (r10 : Bool) (w : World) (h : intrusionlaw17_taken.f k a0 = some (r1, r2, r3, r4, r5, r6, r7, r8, r9, r10)) :
  Calls Tryd.prog 16 #[.string a0] w fun e w' => e = .returned (.tuple #[.agg #[.bool r1, .int .u64 r2, .int .u64 r3, .bool r4, .int .u64 r5, .int .u64 r6, .int .i64 r7, .int .i64 r8, .string r9], .bool r10]) ∧ Below w.heap.size w w' := by
 have hu30 := Tryd.underlying30
 have hu66 := Tryd.underlying66
 have hu64 := Tryd.underlying64
 have hu60 := Tryd.underlying60
 have hu24 := Tryd.underlying24
 have HB := As (Below.refl w.heap.size w)
 have H : (if a0.toList = ([] : List UInt8) then (some (false, 0, 0, false, 0, 0, 0, 0, (⟨#[]⟩ : ByteArray), false)) else (if 0 < (a0.size : Int) then (if ((Int.tdiv (bt a0 0) 16) % 256) = 4 then ((ipv4_Decode.f k a0).bind fun bt501 => (if bt501.2.2.2.2.2.2.2.2.2.2.2.2.2.2.2 = 0 then ((ipv4_Fragment.f bt501.1 bt501.2.1 bt501.2.2.1 bt501.2.2.2.1 bt501.2.2.2.2.1 bt501.2.2.2.2.2.1 bt501.2.2.2.2.2.2.1 bt501.2.2.2.2.2.2.2.1 bt501.2.2.2.2.2.2.2.2.1 bt501.2.2.2.2.2.2.2.2.2.1 bt501.2.2.2.2.2.2.2.2.2.2.1 bt501.2.2.2.2.2.2.2.2.2.2.2.1 bt501.2.2.2.2.2.2.2.2.2.2.2.2.1 bt501.2.2.2.2.2.2.2.2.2.2.2.2.2.1 bt501.2.2.2.2.2.2.2.2.2.2.2.2.2.2.1).bind fun bt520 => (if bt520.2.2.2.2.2.2.2.2.2.1 = 0 then (some (bt520.1, bt520.2.1, bt520.2.2.1, bt520.2.2.2.1, bt520.2.2.2.2.1, bt520.2.2.2.2.2.1, bt520.2.2.2.2.2.2.1, bt520.2.2.2.2.2.2.2.2.1, bt520.2.2.2.2.2.2.2.2.2.2.2, !bt520.2.2.2.2.2.2.2.2.2.2.1)) else (some (bt520.1, bt520.2.1, bt520.2.2.1, bt520.2.2.2.1, bt520.2.2.2.2.1, bt520.2.2.2.2.2.1, bt520.2.2.2.2.2.2.1, bt520.2.2.2.2.2.2.2.2.1, bt520.2.2.2.2.2.2.2.2.2.2.2, false)))) else (some (false, 0, 0, false, 0, 0, 0, 0, (⟨#[]⟩ : ByteArray), false)))) else ((ipv6_Decode.f k a0).bind fun bt532 => (if bt532.2.2.2.2.2.2.2.2.2.2.2.2.2.2.2.2 = 0 then ((ipv6_Fragment.f bt532.1 bt532.2.1 bt532.2.2.1 bt532.2.2.2.1 bt532.2.2.2.2.1 bt532.2.2.2.2.2.1 bt532.2.2.2.2.2.2.1 bt532.2.2.2.2.2.2.2.1 bt532.2.2.2.2.2.2.2.2.1 bt532.2.2.2.2.2.2.2.2.2.1 bt532.2.2.2.2.2.2.2.2.2.2.1 bt532.2.2.2.2.2.2.2.2.2.2.2.1 bt532.2.2.2.2.2.2.2.2.2.2.2.2.1 bt532.2.2.2.2.2.2.2.2.2.2.2.2.2.1 bt532.2.2.2.2.2.2.2.2.2.2.2.2.2.2.1 bt532.2.2.2.2.2.2.2.2.2.2.2.2.2.2.2.1).bind fun bt552 => (if bt552.2.2.2.2.2.2.2.2.2.1 = 0 then (some (bt552.1, bt552.2.1, bt552.2.2.1, bt552.2.2.2.1, bt552.2.2.2.2.1, bt552.2.2.2.2.2.1, bt552.2.2.2.2.2.2.1, bt552.2.2.2.2.2.2.2.2.1, bt552.2.2.2.2.2.2.2.2.2.2.2, !bt552.2.2.2.2.2.2.2.2.2.2.1)) else (some (bt552.1, bt552.2.1, bt552.2.2.1, bt552.2.2.2.1, bt552.2.2.2.2.1, bt552.2.2.2.2.2.1, bt552.2.2.2.2.2.2.1, bt552.2.2.2.2.2.2.2.2.1, bt552.2.2.2.2.2.2.2.2.2.2.2, false)))) else (some (false, 0, 0, false, 0, 0, 0, 0, (⟨#[]⟩ : ByteArray), false))))) else (none))) = some (r1, r2, r3, r4, r5, r6, r7, r8, r9, r10) := h
 clear h
 by_cases c2 : a0.toList = ([] : List UInt8)
 ·rw [if_pos c2] at H
  have c2b0 : (a0.toList == ([] : List UInt8)) = true := beq_iff_eq.mpr c2
  have c2b1 : (a0.toList != ([] : List UInt8)) = false := bne_eq_false_iff_eq.mpr c2
  have c2b2 : (!a0.toList.isEmpty) = false := by simp [c2]
  have c2b3 : a0.toList.isEmpty = true := by simp [c2]
  clear c2
  simp only [Option.some.injEq, Prod.mk.injEq] at H
  obtain ⟨rfl, rfl, rfl, rfl, rfl, rfl, rfl, rfl, rfl, rfl⟩ := H
  go_enter Tryd.func16, Tryd.ntmps16
  go_wp2_with (first | ((with_reducible refine gate_dst (N := 2) rfl ?_); refine box_event rfl (N := 2) rfl (cs := #[.bool false, .int .u64 0, .int .u64 0, .bool false, .int .u64 0, .int .u64 0, .int .i64 0, .int .i64 0, .string (⟨#[]⟩ : ByteArray)]) (t := 30) kG ?_; intro gb499 hg w3 hbox hb; have BK499 := As (hbox); have GW499 := As (gS hg (below_size (kB HB.out))); have GE499 := As (gS hg (below_size (kB HB.out))); replace HB := As (below_step (kB HB.out) hb); clear hb hbox hg) | ((with_reducible refine gate_store (t := 30) (p := 2) rfl ?_); refine store_rowev_9 gb499 (.bool false) (.int .u64 0) (.int .u64 0) (.bool false) (.int .u64 0) (.int .u64 0) (.int .i64 0) (.int .i64 0) (.string (⟨#[]⟩ : ByteArray)) rfl (t := 30) (p := 2) (v := _) rfl rfl rfl rfl (t' := 30) (kb BK499.out) (by rfl) (by kernel_rfl) (by rfl) ?_))
  refine bodyPost_ret (results_ct rfl _ _ gb499 30 #[.bool false, .int .u64 0, .int .u64 0, .bool false, .int .u64 0, .int .u64 0, .int .i64 0, .int .i64 0, .string (⟨#[]⟩ : ByteArray)] (0, 0) _ rfl (by refine kb ?_; exact blk_all_9 (kb BK499.out) (by rfl)) Tryd.underlying30 rfl (by kernel_rfl)) rfl ?_
  exact ⟨kE, by exact kB1 HB.out GE499.out⟩
 rw [if_neg c2] at H
 have c2b0 : (a0.toList == ([] : List UInt8)) = false := beq_eq_false_iff_ne.mpr c2
 have c2b1 : (a0.toList != ([] : List UInt8)) = true := bne_iff_ne.mpr c2
 have c2b2 : (!a0.toList.isEmpty) = true := by simp [c2]
 have c2b3 : a0.toList.isEmpty = false := by simp [c2]
 replace H := iS H
 obtain ⟨c4, H⟩ := H
 have c4b0 := decide_eq_true c4
 have c4b1 : decide (0 < a0.size) = true := decide_eq_true (by omega)
 clear c4
 by_cases c6 : ((Int.tdiv (bt a0 0) 16) % 256) = 4
 ·rw [if_pos c6] at H
  have c6b0 : (((Int.tdiv (bt a0 0) 16) % 256) == 4) = true := beq_iff_eq.mpr c6
  have c6b1 : (((Int.tdiv (bt a0 0) 16) % 256) != 4) = false := bne_eq_false_iff_eq.mpr c6
  clear c6
  replace H := bS H
  obtain ⟨⟨t501, t502, t503, t504, t505, t506, t507, t508, t509, t510, t511, t512, t513, t514, t517, t518⟩, A7, H⟩ := H
  try dsimp -simprocs only at H
  by_cases c8 : t518 = 0
  ·rw [if_pos c8] at H
   have c8b0 : (t518 == 0) = true := beq_iff_eq.mpr c8
   have c8b1 : (t518 != 0) = false := bne_eq_false_iff_eq.mpr c8
   clear c8
   replace H := bS H
   obtain ⟨⟨t520, t521, t522, t523, t524, t525, t526, t527, t528, t529, t530, t531⟩, A9, H⟩ := H
   try dsimp -simprocs only at H
   by_cases c10 : t529 = 0
   ·rw [if_pos c10] at H
    have c10b0 : (t529 == 0) = true := beq_iff_eq.mpr c10
    have c10b1 : (t529 != 0) = false := bne_eq_false_iff_eq.mpr c10
    clear c10
    simp only [Option.some.injEq, Prod.mk.injEq] at H
    obtain ⟨rfl, rfl, rfl, rfl, rfl, rfl, rfl, rfl, rfl, rfl⟩ := H
    go_enter Tryd.func16, Tryd.ntmps16
    try go_wp2_with (first | ((with_reducible refine gate_dst (N := 2) rfl ?_); refine box_event rfl (N := 2) rfl (cs := #[.bool false, .int .u64 0, .int .u64 0, .bool false, .int .u64 0, .int .u64 0, .int .i64 0, .int .i64 0, .string (⟨#[]⟩ : ByteArray)]) (t := 30) kG ?_; intro gb499 hg w11 hbox hb; have BK499 := As (hbox); have GW499 := As (gS hg (below_size (kB HB.out))); have GE499 := As (gS hg (below_size (kB HB.out))); replace HB := As (below_step (kB HB.out) hb); clear hb hbox hg) | ((with_reducible refine gate_dst (N := 4) rfl ?_); refine box_event rfl (N := 4) rfl (cs := #[.bool false, .int .u64 0, .int .u64 0, .bool false, .int .u64 0, .int .u64 0, .int .i64 0, .int .i64 0, .int .i64 0, .int .i64 0, .bool false, .string (⟨#[]⟩ : ByteArray)]) (t := 66) kG ?_; intro gb500 hg w12 hbox hb; have BK500 := As (hbox); have GW500 := As (gS hg (below_size (kB1 HB.out GE499.out))); have GE500 := As (gS hg (below_size (kB1 HB.out GE499.out))); replace HB := As (below_step (kB1 HB.out GE499.out) hb); have NB499_500 := As (gN hg (blk_lt (kb BK499.out))); have NB500_499 := As (gM hg (blk_lt (kb BK499.out))); replace BK499 := As (blk_below (kb BK499.out) hb); clear hb hbox hg) | ((with_reducible refine gate_store (t := 66) (p := 4) rfl ?_); refine store_rowev_12 gb500 (.bool false) (.int .u64 0) (.int .u64 0) (.bool false) (.int .u64 0) (.int .u64 0) (.int .i64 0) (.int .i64 0) (.int .i64 0) (.int .i64 0) (.bool false) (.string (⟨#[]⟩ : ByteArray)) rfl (t := 66) (p := 4) (v := _) rfl rfl rfl rfl (t' := 66) (kb BK500.out) (by rfl) (by kernel_rfl) (by rfl) ?_; have p5 : 0 ≤ (0 : Int) := (by omega); have q5 : 0 < a0.size := (by have : (0 : Int) < (a0.size : Int) := of_decide_eq_true (by first | (with_reducible assumption) | assumption); omega); have hx5 : ∀ h : 0 < a0.size, ((a0[0]'h).toNat : Int) = bt a0 0 := bt_at a0 0; clear p5; have qi5 : (0 < (a0.size : Int)) = True := eq_true (of_decide_eq_true (by first | (with_reducible assumption) | assumption)); replace q5 := eq_true q5) | ((with_reducible refine gate_callee (f := 39) rfl ?_); refine goesL_ (some 19) rfl rfl Tryd.func39 (by kernel_rfl) rfl #[.string a0] rfl kA ?_; (with_reducible refine (ipv4_Decode.calls k a0 t501 t502 t503 t504 t505 t506 t507 t508 t509 t510 t511 t512 t513 t514 t517 t518 _ A7.out).mono ?_); rintro e w13 ⟨v515, rfl, ho0, hb⟩; refine ⟨_, rfl, ?_⟩; have HO516 := As (Kd.R_lower ho0 (below_size (kB2 HB.out GE499.out GE500.out))); replace BK499 := As (blk_below (g := gb499) (o := .cells #[.bool false, .int .u64 0, .int .u64 0, .bool false, .int .u64 0, .int .u64 0, .int .i64 0, .int .i64 0, .string (⟨#[]⟩ : ByteArray)] 30 (0, 0)) (by refine kb ?_; (iterate 12 (refine blk_far ?_ NB499_500.out _; refine kb ?_)); exact BK499.out) hb); replace BK500 := As (blk_below (g := gb500) (o := .cells #[.bool false, .int .u64 0, .int .u64 0, .bool false, .int .u64 0, .int .u64 0, .int .i64 0, .int .i64 0, .int .i64 0, .int .i64 0, .bool false, .string (⟨#[]⟩ : ByteArray)] 66 (0, 0)) (by refine kb ?_; exact blk_all_12 (kb BK500.out) (by rfl)) hb); replace HB := As (below_step (kB2 HB.out GE499.out GE500.out) hb); (try clear hb); (try clear ho0)) | ((with_reducible refine gate_dst (N := 5) rfl ?_); refine box_event rfl (N := 5) rfl (cs := #[.int .i64 0, .int .i64 0, .int .i64 0, .int .i64 0, .bool false, .bool false, .int .i64 0, .bool false, .int .u64 0, .int .u64 0, .bool false, .int .u64 0, .int .u64 0, .slice none 0 0, .string (⟨#[]⟩ : ByteArray)]) (t := 64) kG ?_; intro gb519 hg w14 hbox hb; replace HO516 := As (Kd.R_below (kR HO516.out) hb); have BK519 := As (hbox); have GW519 := As (gS hg (below_size (kB2 HB.out GE499.out GE500.out))); have GE519 := As (gS hg (below_size (kB2 HB.out GE499.out GE500.out))); replace HB := As (below_step (kB2 HB.out GE499.out GE500.out) hb); have NB499_519 := As (gN hg (blk_lt (kb BK499.out))); have NB519_499 := As (gM hg (blk_lt (kb BK499.out))); replace BK499 := As (blk_below (kb BK499.out) hb); have NB500_519 := As (gN hg (blk_lt (kb BK500.out))); have NB519_500 := As (gM hg (blk_lt (kb BK500.out))); replace BK500 := As (blk_below (kb BK500.out) hb); clear hb hbox hg; obtain ⟨Ao15, co15, eo15⟩ := Kd.R_slice HO516.out; subst eo15) | ((with_reducible refine gate_store (t := 64) (p := 5) rfl ?_); refine store_rowev_15 gb519 (.int .i64 t501) (.int .i64 t502) (.int .i64 t503) (.int .i64 t504) (.bool t505) (.bool t506) (.int .i64 t507) (.bool t508) (.int .u64 t509) (.int .u64 t510) (.bool t511) (.int .u64 t512) (.int .u64 t513) (.slice Ao15 t514.length co15) (.string t517) rfl (t := 64) (p := 5) (v := _) rfl rfl rfl rfl (t' := 64) (kb BK519.out) (by rfl) (by kernel_rfl) (by rfl) ?_) | ((with_reducible refine gate_dst (N := 25) rfl ?_); (try (refine gate_guard (by rfl) ?_; dsimp only)); refine wpList_load_row ?hgd 64 _ rfl gb519 rfl 64 #[.int .i64 t501, .int .i64 t502, .int .i64 t503, .int .i64 t504, .bool t505, .bool t506, .int .i64 t507, .bool t508, .int .u64 t509, .int .u64 t510, .bool t511, .int .u64 t512, .int .u64 t513, .slice Ao15 t514.length co15, .string t517] (0, 0) _ (by refine kb ?_; exact blk_all_15 (kb BK519.out) (by rfl)) Tryd.underlying64 rfl (by kernel_rfl) ?_; (case hgd => rfl)) | ((with_reducible refine gate_callee (f := 40) rfl ?_); refine goesL_ (some 26) rfl rfl Tryd.func40 (by kernel_rfl) rfl #[.agg #[.int .i64 t501, .int .i64 t502, .int .i64 t503, .int .i64 t504, .bool t505, .bool t506, .int .i64 t507, .bool t508, .int .u64 t509, .int .u64 t510, .bool t511, .int .u64 t512, .int .u64 t513, .slice Ao15 t514.length co15, .string t517]] rfl kA ?_; (with_reducible refine (ipv4_Fragment.calls t501 t502 t503 t504 t505 t506 t507 t508 t509 t510 t511 t512 t513 _ _ t514 t517 t520 t521 t522 t523 t524 t525 t526 t527 t528 t529 t530 t531 _ ?side1 ?side2 A9.out).mono ?_); (case side1 => refine (Kd.R_reads' (e := 125) (base := w.heap.size) (ok := fun k_ => True) (n := t514.length) (c := co15) ?_).2.2; exact (by refine kR ?_; exact (Kd.R_mono (Kd.R_puts_0_15 gb519 (.int .i64 t501) (.int .i64 t502) (.int .i64 t503) (.int .i64 t504) (.bool t505) (.bool t506) (.int .i64 t507) (.bool t508) (.int .u64 t509) (.int .u64 t510) (.bool t511) (.int .u64 t512) (.int .u64 t513) (.slice Ao15 t514.length co15) (.string t517) (Kd.R_types HO516.out BK519.out (by decide)) (fun _ hk => hk.2)) (fun _ h_ => h_.1)))); (case side2 => exact (Kd.R_reads' HO516.out).2.1); rintro e w16 ⟨rfl, hb⟩; refine ⟨_, rfl, ?_⟩; replace HO516 := As (Kd.R_below (by refine kR ?_; exact (Kd.R_mono (Kd.R_puts_0_15 gb519 (.int .i64 t501) (.int .i64 t502) (.int .i64 t503) (.int .i64 t504) (.bool t505) (.bool t506) (.int .i64 t507) (.bool t508) (.int .u64 t509) (.int .u64 t510) (.bool t511) (.int .u64 t512) (.int .u64 t513) (.slice Ao15 t514.length co15) (.string t517) (Kd.R_types HO516.out BK519.out (by decide)) (fun _ hk => hk.2)) (fun _ h_ => h_.1))) hb); replace BK499 := As (blk_below (g := gb499) (o := .cells #[.bool false, .int .u64 0, .int .u64 0, .bool false, .int .u64 0, .int .u64 0, .int .i64 0, .int .i64 0, .string (⟨#[]⟩ : ByteArray)] 30 (0, 0)) (by refine kb ?_; (iterate 15 (refine blk_far ?_ NB499_519.out _; refine kb ?_)); exact BK499.out) hb); replace BK500 := As (blk_below (g := gb500) (o := .cells #[.bool false, .int .u64 0, .int .u64 0, .bool false, .int .u64 0, .int .u64 0, .int .i64 0, .int .i64 0, .int .i64 0, .int .i64 0, .bool false, .string (⟨#[]⟩ : ByteArray)] 66 (0, 0)) (by refine kb ?_; (iterate 15 (refine blk_far ?_ NB500_519.out _; refine kb ?_)); exact BK500.out) hb); replace BK519 := As (blk_below (g := gb519) (o := .cells #[.int .i64 t501, .int .i64 t502, .int .i64 t503, .int .i64 t504, .bool t505, .bool t506, .int .i64 t507, .bool t508, .int .u64 t509, .int .u64 t510, .bool t511, .int .u64 t512, .int .u64 t513, .slice Ao15 t514.length co15, .string t517] 64 (0, 0)) (by refine kb ?_; exact blk_all_15 (kb BK519.out) (by rfl)) hb); replace HB := As (below_step (kB3 HB.out GE499.out GE500.out GE519.out) hb); (try clear hb); (try clear hk)) | ((with_reducible refine gate_store (t := 66) (p := 4) rfl ?_); refine store_rowev_12 gb500 (.bool t520) (.int .u64 t521) (.int .u64 t522) (.bool t523) (.int .u64 t524) (.int .u64 t525) (.int .i64 t526) (.int .i64 t527) (.int .i64 t528) (.int .i64 t529) (.bool t530) (.string t531) rfl (t := 66) (p := 4) (v := _) rfl rfl rfl rfl (t' := 66) (kb BK500.out) (by rfl) (by kernel_rfl) (by rfl) ?_))
    have n0_ : Aside0 (Kd.R k125 125 ((((((((((((w16.setCell ⟨gb500, 0, none⟩ (.bool t520)).setCell ⟨gb500, 1, none⟩ (.int .u64 t521)).setCell ⟨gb500, 2, none⟩ (.int .u64 t522)).setCell ⟨gb500, 3, none⟩ (.bool t523)).setCell ⟨gb500, 4, none⟩ (.int .u64 t524)).setCell ⟨gb500, 5, none⟩ (.int .u64 t525)).setCell ⟨gb500, 6, none⟩ (.int .i64 t526)).setCell ⟨gb500, 7, none⟩ (.int .i64 t527)).setCell ⟨gb500, 8, none⟩ (.int .i64 t528)).setCell ⟨gb500, 9, none⟩ (.int .i64 t529)).setCell ⟨gb500, 10, none⟩ (.bool t530)).setCell ⟨gb500, 11, none⟩ (.string t531)) w.heap.size (fun _ => True) (.slice Ao15 t514.length co15) t514) := ⟨by (with_reducible repeat (first | apply Kd.R_alloc | apply Kd.R_drewN | apply Kd.R_drew)); exact Kd.R_mono (Kd.R_puts_0_12 gb500 (.bool t520) (.int .u64 t521) (.int .u64 t522) (.bool t523) (.int .u64 t524) (.int .u64 t525) (.int .i64 t526) (.int .i64 t527) (.int .i64 t528) (.int .i64 t529) (.bool t530) (.string t531) (Kd.R_types HO516.out BK500.out (by decide)) (fun _ hk => hk.2)) (fun _ hk => trivial)⟩
    have n1_ : Aside0 (((((((((((((w16.setCell ⟨gb500, 0, none⟩ (.bool t520)).setCell ⟨gb500, 1, none⟩ (.int .u64 t521)).setCell ⟨gb500, 2, none⟩ (.int .u64 t522)).setCell ⟨gb500, 3, none⟩ (.bool t523)).setCell ⟨gb500, 4, none⟩ (.int .u64 t524)).setCell ⟨gb500, 5, none⟩ (.int .u64 t525)).setCell ⟨gb500, 6, none⟩ (.int .i64 t526)).setCell ⟨gb500, 7, none⟩ (.int .i64 t527)).setCell ⟨gb500, 8, none⟩ (.int .i64 t528)).setCell ⟨gb500, 9, none⟩ (.int .i64 t529)).setCell ⟨gb500, 10, none⟩ (.bool t530)).setCell ⟨gb500, 11, none⟩ (.string t531)).heap[gb499]? = some (.cells #[.bool false, .int .u64 0, .int .u64 0, .bool false, .int .u64 0, .int .u64 0, .int .i64 0, .int .i64 0, .string (⟨#[]⟩ : ByteArray)] 30 (0, 0))) := ⟨by refine kb ?_; (iterate 12 (refine blk_far ?_ NB499_500.out _; refine kb ?_)); exact BK499.out⟩
    have n2_ : Aside0 (((((((((((((w16.setCell ⟨gb500, 0, none⟩ (.bool t520)).setCell ⟨gb500, 1, none⟩ (.int .u64 t521)).setCell ⟨gb500, 2, none⟩ (.int .u64 t522)).setCell ⟨gb500, 3, none⟩ (.bool t523)).setCell ⟨gb500, 4, none⟩ (.int .u64 t524)).setCell ⟨gb500, 5, none⟩ (.int .u64 t525)).setCell ⟨gb500, 6, none⟩ (.int .i64 t526)).setCell ⟨gb500, 7, none⟩ (.int .i64 t527)).setCell ⟨gb500, 8, none⟩ (.int .i64 t528)).setCell ⟨gb500, 9, none⟩ (.int .i64 t529)).setCell ⟨gb500, 10, none⟩ (.bool t530)).setCell ⟨gb500, 11, none⟩ (.string t531)).heap[gb500]? = some (.cells #[.bool t520, .int .u64 t521, .int .u64 t522, .bool t523, .int .u64 t524, .int .u64 t525, .int .i64 t526, .int .i64 t527, .int .i64 t528, .int .i64 t529, .bool t530, .string t531] 66 (0, 0))) := ⟨by refine kb ?_; exact blk_all_12 (kb BK500.out) (by rfl)⟩
    have n3_ : Aside0 (((((((((((((w16.setCell ⟨gb500, 0, none⟩ (.bool t520)).setCell ⟨gb500, 1, none⟩ (.int .u64 t521)).setCell ⟨gb500, 2, none⟩ (.int .u64 t522)).setCell ⟨gb500, 3, none⟩ (.bool t523)).setCell ⟨gb500, 4, none⟩ (.int .u64 t524)).setCell ⟨gb500, 5, none⟩ (.int .u64 t525)).setCell ⟨gb500, 6, none⟩ (.int .i64 t526)).setCell ⟨gb500, 7, none⟩ (.int .i64 t527)).setCell ⟨gb500, 8, none⟩ (.int .i64 t528)).setCell ⟨gb500, 9, none⟩ (.int .i64 t529)).setCell ⟨gb500, 10, none⟩ (.bool t530)).setCell ⟨gb500, 11, none⟩ (.string t531)).heap[gb519]? = some (.cells #[.int .i64 t501, .int .i64 t502, .int .i64 t503, .int .i64 t504, .bool t505, .bool t506, .int .i64 t507, .bool t508, .int .u64 t509, .int .u64 t510, .bool t511, .int .u64 t512, .int .u64 t513, .slice Ao15 t514.length co15, .string t517] 64 (0, 0))) := ⟨by refine kb ?_; (iterate 12 (refine blk_far ?_ NB519_500.out _; refine kb ?_)); exact BK519.out⟩
    have n4_ : Aside0 (Below w.heap.size w ((((((((((((w16.setCell ⟨gb500, 0, none⟩ (.bool t520)).setCell ⟨gb500, 1, none⟩ (.int .u64 t521)).setCell ⟨gb500, 2, none⟩ (.int .u64 t522)).setCell ⟨gb500, 3, none⟩ (.bool t523)).setCell ⟨gb500, 4, none⟩ (.int .u64 t524)).setCell ⟨gb500, 5, none⟩ (.int .u64 t525)).setCell ⟨gb500, 6, none⟩ (.int .i64 t526)).setCell ⟨gb500, 7, none⟩ (.int .i64 t527)).setCell ⟨gb500, 8, none⟩ (.int .i64 t528)).setCell ⟨gb500, 9, none⟩ (.int .i64 t529)).setCell ⟨gb500, 10, none⟩ (.bool t530)).setCell ⟨gb500, 11, none⟩ (.string t531))) := ⟨kB3 HB.out GE499.out GE500.out GE519.out⟩
    (try clear HO516)
    (try clear BK499)
    (try clear BK500)
    (try clear BK519)
    (try clear HB)
    generalize ((((((((((((w16.setCell ⟨gb500, 0, none⟩ (.bool t520)).setCell ⟨gb500, 1, none⟩ (.int .u64 t521)).setCell ⟨gb500, 2, none⟩ (.int .u64 t522)).setCell ⟨gb500, 3, none⟩ (.bool t523)).setCell ⟨gb500, 4, none⟩ (.int .u64 t524)).setCell ⟨gb500, 5, none⟩ (.int .u64 t525)).setCell ⟨gb500, 6, none⟩ (.int .i64 t526)).setCell ⟨gb500, 7, none⟩ (.int .i64 t527)).setCell ⟨gb500, 8, none⟩ (.int .i64 t528)).setCell ⟨gb500, 9, none⟩ (.int .i64 t529)).setCell ⟨gb500, 10, none⟩ (.bool t530)).setCell ⟨gb500, 11, none⟩ (.string t531)) = w17 at n0_ n1_ n2_ n3_ n4_ ⊢
    have HO516 := n0_
    have BK499 := n1_
    have BK500 := n2_
    have BK519 := n3_
    have HB := n4_
    clear n0_ n1_ n2_ n3_ n4_
    replace HO516 := As (Kd.R_drew HO516.out)
    replace BK499 := As (blk_drew BK499.out)
    replace BK500 := As (blk_drew BK500.out)
    replace BK519 := As (blk_drew BK519.out)
    replace HB := As (below_drew1 HB.out)
    refine start_ (n := 21) (S := fun w' => w'.cell? ⟨gb500, 0, none⟩ = some (.bool t520) ∧ w'.cell? ⟨gb500, 1, none⟩ = some (.int .u64 t521) ∧ w'.cell? ⟨gb500, 2, none⟩ = some (.int .u64 t522) ∧ w'.cell? ⟨gb500, 3, none⟩ = some (.bool t523) ∧ w'.cell? ⟨gb500, 4, none⟩ = some (.int .u64 t524) ∧ w'.cell? ⟨gb500, 5, none⟩ = some (.int .u64 t525) ∧ w'.cell? ⟨gb500, 6, none⟩ = some (.int .i64 t526) ∧ w'.cell? ⟨gb500, 7, none⟩ = some (.int .i64 t527) ∧ w'.cell? ⟨gb500, 8, none⟩ = some (.int .i64 t528) ∧ w'.cell? ⟨gb500, 9, none⟩ = some (.int .i64 t529) ∧ w'.cell? ⟨gb500, 10, none⟩ = some (.bool t530) ∧ w'.cell? ⟨gb500, 11, none⟩ = some (.string t531)) (ds := []) #[O, O, O, O, O, O, O, O, O, O, O, O, O, O, O, O, O, O, O, O, O] (by kernel_rfl) rfl rfl ⟨kC BK500.out 0, kC BK500.out 1, kC BK500.out 2, kC BK500.out 3, kC BK500.out 4, kC BK500.out 5, kC BK500.out 6, kC BK500.out 7, kC BK500.out 8, kC BK500.out 9, kC BK500.out 10, kC BK500.out 11⟩ (fun hHeld => ?_); refine with_tabW intrusionlaw17_taken.tab13 intrusionlaw17_taken.bits13 (fun HT_ HW_ => ?_)
    generalize w17.drew = w18 at HO516 BK499 BK500 BK519 HB hHeld ⊢
    refine kP 0 37 #[I, O, O, O, O, O, O, O, O, O, O, O, O, O, O, O, O, O, O, O, O] ?_ (any_of HT_.out (by kernel_rfl))
    refine kP 2 39 #[I, O, I, O, O, O, O, O, O, O, O, O, O, O, O, O, O, O, O, O, O] ?_ (any_of HT_.out (by kernel_rfl))
    refine kP 4 41 #[I, O, I, O, I, O, O, O, O, O, O, O, O, O, O, O, O, O, O, O, O] ?_ (any_of HT_.out (by kernel_rfl))
    refine kP 6 43 #[I, O, I, O, I, O, I, O, O, O, O, O, O, O, O, O, O, O, O, O, O] ?_ (any_of HT_.out (by kernel_rfl))
    refine kP 8 45 #[I, O, I, O, I, O, I, O, I, O, O, O, O, O, O, O, O, O, O, O, O] ?_ (any_of HT_.out (by kernel_rfl))
    refine kP 11 48 #[I, O, I, O, I, O, I, O, I, O, O, I, O, O, O, O, O, O, O, O, O] ?_ (any_of HT_.out (by kernel_rfl))
    refine take_ (i := 1) (N := some 38) (v := ?_) (a' := ?_) #[I, I, I, O, I, O, I, O, I, O, O, I, O, O, O, O, O, O, O, O, O] rfl rfl (take_ofW HT_.out HW_.out (by kernel_rfl)) (fun _ _ _ h => h) (Or.inl ⟨by rfl, ?_⟩) hHeld ?_ ?_
    rotate_left
    ·rintro w' ⟨s0, s1, s2, s3, s4, s5, s6, s7, s8, s9, s10, s11⟩
     go_simp
     with_reducible rfl
    rotate_left
    ·simp only [Act.put, sA, sZ, sS, i64_w, i32_w]
     rfl
    refine take_ (i := 3) (N := some 40) (v := ?_) (a' := ?_) #[I, I, I, I, I, O, I, O, I, O, O, I, O, O, O, O, O, O, O, O, O] rfl rfl (take_ofW HT_.out HW_.out (by kernel_rfl)) (fun _ _ _ h => h) (Or.inl ⟨by rfl, ?_⟩) hHeld ?_ ?_
    rotate_left
    ·rintro w' ⟨s0, s1, s2, s3, s4, s5, s6, s7, s8, s9, s10, s11⟩
     go_simp
     with_reducible rfl
    rotate_left
    ·simp only [Act.put, sA, sZ, sS, i64_w, i32_w]
     rfl
    refine take_ (i := 5) (N := some 42) (v := ?_) (a' := ?_) #[I, I, I, I, I, I, I, O, I, O, O, I, O, O, O, O, O, O, O, O, O] rfl rfl (take_ofW HT_.out HW_.out (by kernel_rfl)) (fun _ _ _ h => h) (Or.inl ⟨by rfl, ?_⟩) hHeld ?_ ?_
    rotate_left
    ·rintro w' ⟨s0, s1, s2, s3, s4, s5, s6, s7, s8, s9, s10, s11⟩
     go_simp
     with_reducible rfl
    rotate_left
    ·simp only [Act.put, sA, sZ, sS, i64_w, i32_w]
     rfl
    refine take_ (i := 7) (N := some 44) (v := ?_) (a' := ?_) #[I, I, I, I, I, I, I, I, I, O, O, I, O, O, O, O, O, O, O, O, O] rfl rfl (take_ofW HT_.out HW_.out (by kernel_rfl)) (fun _ _ _ h => h) (Or.inl ⟨by rfl, ?_⟩) hHeld ?_ ?_
    rotate_left
    ·rintro w' ⟨s0, s1, s2, s3, s4, s5, s6, s7, s8, s9, s10, s11⟩
     go_simp
     with_reducible rfl
    rotate_left
    ·simp only [Act.put, sA, sZ, sS, i64_w, i32_w]
     rfl
    refine take_ (i := 9) (N := some 46) (v := ?_) (a' := ?_) #[I, I, I, I, I, I, I, I, I, I, O, I, O, O, O, O, O, O, O, O, O] rfl rfl (take_ofW HT_.out HW_.out (by kernel_rfl)) (fun _ _ _ h => h) (Or.inl ⟨by rfl, ?_⟩) hHeld ?_ ?_
    rotate_left
    ·rintro w' ⟨s0, s1, s2, s3, s4, s5, s6, s7, s8, s9, s10, s11⟩
     go_simp
     with_reducible rfl
    rotate_left
    ·simp only [Act.put, sA, sZ, sS, i64_w, i32_w]
     rfl
    refine kP 10 47 #[I, I, I, I, I, I, I, I, I, I, I, I, O, O, O, O, O, O, O, O, O] ?_ (any_of HT_.out (by kernel_rfl))
    refine take_ (i := 12) (N := some 49) (v := ?_) (a' := ?_) #[I, I, I, I, I, I, I, I, I, I, I, I, I, O, O, O, O, O, O, O, O] rfl rfl (take_ofW HT_.out HW_.out (by kernel_rfl)) (fun _ _ _ h => h) (Or.inl ⟨by rfl, ?_⟩) hHeld ?_ ?_
    rotate_left
    ·rintro w' ⟨s0, s1, s2, s3, s4, s5, s6, s7, s8, s9, s10, s11⟩
     go_simp
     with_reducible rfl
    rotate_left
    ·simp only [Act.put, sA, sZ, sS, i64_w, i32_w]
     rfl
    refine kP 13 50 #[I, I, I, I, I, I, I, I, I, I, I, I, I, I, O, O, O, O, O, O, O] ?_ (any_of HT_.out (by kernel_rfl))
    refine kP 14 51 #[I, I, I, I, I, I, I, I, I, I, I, I, I, I, I, O, O, O, O, O, O] ?_ (any_of HT_.out (by kernel_rfl))
    refine kP 15 52 #[I, I, I, I, I, I, I, I, I, I, I, I, I, I, I, I, O, O, O, O, O] ?_ (any_of HT_.out (by kernel_rfl))
    refine take_ (i := 16) (N := some 53) (v := ?_) (a' := ?_) #[I, I, I, I, I, I, I, I, I, I, I, I, I, I, I, I, I, O, O, O, O] rfl rfl (take_ofW HT_.out HW_.out (by kernel_rfl)) (fun _ _ _ h => h) (Or.inl ⟨by rfl, ?_⟩) hHeld ?_ ?_
    rotate_left
    ·rintro w' ⟨s0, s1, s2, s3, s4, s5, s6, s7, s8, s9, s10, s11⟩
     go_simp
     with_reducible rfl
    rotate_left
    ·simp only [Act.put, sA, sZ, sS, i64_w, i32_w]
     rfl
    refine kP 17 54 #[I, I, I, I, I, I, I, I, I, I, I, I, I, I, I, I, I, I, O, O, O] ?_ (any_of HT_.out (by kernel_rfl))
    refine kP 18 55 #[I, I, I, I, I, I, I, I, I, I, I, I, I, I, I, I, I, I, I, O, O] ?_ (any_of HT_.out (by kernel_rfl))
    refine one_ (i := 19) (N := none) #[I, I, I, I, I, I, I, I, I, I, I, I, I, I, I, I, I, I, I, I, O] rfl rfl (one_of HT_.out (by kernel_rfl)) (by decide) (fun K hK => ?_)
    have hs19 : w18.cell? ⟨gb499, 0, none⟩ = some (.bool false) := (blk_cell BK499.out 0).trans rfl
    have hfs19 := blk_frozen BK499.out 0
    have hns19_1 := NB500_499.out
    have hns19_2 := NB519_499.out
    have hms19_1 := NB499_500.out
    have hms19_2 := NB499_519.out
    have hs20 : w18.cell? ⟨gb499, 1, none⟩ = some (.int .u64 0) := (blk_cell BK499.out 1).trans rfl
    have hfs20 := blk_frozen BK499.out 1
    have hns20_1 := NB500_499.out
    have hns20_2 := NB519_499.out
    have hms20_1 := NB499_500.out
    have hms20_2 := NB499_519.out
    have hs21 : w18.cell? ⟨gb499, 2, none⟩ = some (.int .u64 0) := (blk_cell BK499.out 2).trans rfl
    have hfs21 := blk_frozen BK499.out 2
    have hns21_1 := NB500_499.out
    have hns21_2 := NB519_499.out
    have hms21_1 := NB499_500.out
    have hms21_2 := NB499_519.out
    have hs22 : w18.cell? ⟨gb499, 3, none⟩ = some (.bool false) := (blk_cell BK499.out 3).trans rfl
    have hfs22 := blk_frozen BK499.out 3
    have hns22_1 := NB500_499.out
    have hns22_2 := NB519_499.out
    have hms22_1 := NB499_500.out
    have hms22_2 := NB499_519.out
    have hs23 : w18.cell? ⟨gb499, 4, none⟩ = some (.int .u64 0) := (blk_cell BK499.out 4).trans rfl
    have hfs23 := blk_frozen BK499.out 4
    have hns23_1 := NB500_499.out
    have hns23_2 := NB519_499.out
    have hms23_1 := NB499_500.out
    have hms23_2 := NB499_519.out
    have hs24 : w18.cell? ⟨gb499, 5, none⟩ = some (.int .u64 0) := (blk_cell BK499.out 5).trans rfl
    have hfs24 := blk_frozen BK499.out 5
    have hns24_1 := NB500_499.out
    have hns24_2 := NB519_499.out
    have hms24_1 := NB499_500.out
    have hms24_2 := NB499_519.out
    have hs25 : w18.cell? ⟨gb499, 6, none⟩ = some (.int .i64 0) := (blk_cell BK499.out 6).trans rfl
    have hfs25 := blk_frozen BK499.out 6
    have hns25_1 := NB500_499.out
    have hns25_2 := NB519_499.out
    have hms25_1 := NB499_500.out
    have hms25_2 := NB499_519.out
    have hs26 : w18.cell? ⟨gb499, 7, none⟩ = some (.int .i64 0) := (blk_cell BK499.out 7).trans rfl
    have hfs26 := blk_frozen BK499.out 7
    have hns26_1 := NB500_499.out
    have hns26_2 := NB519_499.out
    have hms26_1 := NB499_500.out
    have hms26_2 := NB499_519.out
    have hs27 : w18.cell? ⟨gb499, 8, none⟩ = some (.string (⟨#[]⟩ : ByteArray)) := (blk_cell BK499.out 8).trans rfl
    have hfs27 := blk_frozen BK499.out 8
    have hns27_1 := NB500_499.out
    have hns27_2 := NB519_499.out
    have hms27_1 := NB499_500.out
    have hms27_2 := NB499_519.out
    refine skip_ (w1 := ?_) (by rfl) rfl ?_ ?_
    rotate_left
    ·go_simp
     rfl
    refine hK.out _ _ ⟨((cell_far (p := ⟨gb499, _, none⟩) NB500_499.out _).trans (((cell_far (p := ⟨gb499, _, none⟩) NB500_499.out _).trans (((cell_far (p := ⟨gb499, _, none⟩) NB500_499.out _).trans (((cell_far (p := ⟨gb499, _, none⟩) NB500_499.out _).trans (((cell_far (p := ⟨gb499, _, none⟩) NB500_499.out _).trans (((cell_far (p := ⟨gb499, _, none⟩) NB500_499.out _).trans (((cell_far (p := ⟨gb499, _, none⟩) NB500_499.out _).trans (((cell_far (p := ⟨gb499, _, none⟩) NB500_499.out _).trans (kF NB500_499.out hHeld.1)))))))))))))))), ((cell_far (p := ⟨gb499, _, none⟩) NB500_499.out _).trans (((cell_far (p := ⟨gb499, _, none⟩) NB500_499.out _).trans (((cell_far (p := ⟨gb499, _, none⟩) NB500_499.out _).trans (((cell_far (p := ⟨gb499, _, none⟩) NB500_499.out _).trans (((cell_far (p := ⟨gb499, _, none⟩) NB500_499.out _).trans (((cell_far (p := ⟨gb499, _, none⟩) NB500_499.out _).trans (((cell_far (p := ⟨gb499, _, none⟩) NB500_499.out _).trans (((cell_far (p := ⟨gb499, _, none⟩) NB500_499.out _).trans (kF NB500_499.out hHeld.2.1)))))))))))))))), ((cell_far (p := ⟨gb499, _, none⟩) NB500_499.out _).trans (((cell_far (p := ⟨gb499, _, none⟩) NB500_499.out _).trans (((cell_far (p := ⟨gb499, _, none⟩) NB500_499.out _).trans (((cell_far (p := ⟨gb499, _, none⟩) NB500_499.out _).trans (((cell_far (p := ⟨gb499, _, none⟩) NB500_499.out _).trans (((cell_far (p := ⟨gb499, _, none⟩) NB500_499.out _).trans (((cell_far (p := ⟨gb499, _, none⟩) NB500_499.out _).trans (((cell_far (p := ⟨gb499, _, none⟩) NB500_499.out _).trans (kF NB500_499.out hHeld.2.2.1)))))))))))))))), ((cell_far (p := ⟨gb499, _, none⟩) NB500_499.out _).trans (((cell_far (p := ⟨gb499, _, none⟩) NB500_499.out _).trans (((cell_far (p := ⟨gb499, _, none⟩) NB500_499.out _).trans (((cell_far (p := ⟨gb499, _, none⟩) NB500_499.out _).trans (((cell_far (p := ⟨gb499, _, none⟩) NB500_499.out _).trans (((cell_far (p := ⟨gb499, _, none⟩) NB500_499.out _).trans (((cell_far (p := ⟨gb499, _, none⟩) NB500_499.out _).trans (((cell_far (p := ⟨gb499, _, none⟩) NB500_499.out _).trans (kF NB500_499.out hHeld.2.2.2.1)))))))))))))))), ((cell_far (p := ⟨gb499, _, none⟩) NB500_499.out _).trans (((cell_far (p := ⟨gb499, _, none⟩) NB500_499.out _).trans (((cell_far (p := ⟨gb499, _, none⟩) NB500_499.out _).trans (((cell_far (p := ⟨gb499, _, none⟩) NB500_499.out _).trans (((cell_far (p := ⟨gb499, _, none⟩) NB500_499.out _).trans (((cell_far (p := ⟨gb499, _, none⟩) NB500_499.out _).trans (((cell_far (p := ⟨gb499, _, none⟩) NB500_499.out _).trans (((cell_far (p := ⟨gb499, _, none⟩) NB500_499.out _).trans (kF NB500_499.out hHeld.2.2.2.2.1)))))))))))))))), ((cell_far (p := ⟨gb499, _, none⟩) NB500_499.out _).trans (((cell_far (p := ⟨gb499, _, none⟩) NB500_499.out _).trans (((cell_far (p := ⟨gb499, _, none⟩) NB500_499.out _).trans (((cell_far (p := ⟨gb499, _, none⟩) NB500_499.out _).trans (((cell_far (p := ⟨gb499, _, none⟩) NB500_499.out _).trans (((cell_far (p := ⟨gb499, _, none⟩) NB500_499.out _).trans (((cell_far (p := ⟨gb499, _, none⟩) NB500_499.out _).trans (((cell_far (p := ⟨gb499, _, none⟩) NB500_499.out _).trans (kF NB500_499.out hHeld.2.2.2.2.2.1)))))))))))))))), ((cell_far (p := ⟨gb499, _, none⟩) NB500_499.out _).trans (((cell_far (p := ⟨gb499, _, none⟩) NB500_499.out _).trans (((cell_far (p := ⟨gb499, _, none⟩) NB500_499.out _).trans (((cell_far (p := ⟨gb499, _, none⟩) NB500_499.out _).trans (((cell_far (p := ⟨gb499, _, none⟩) NB500_499.out _).trans (((cell_far (p := ⟨gb499, _, none⟩) NB500_499.out _).trans (((cell_far (p := ⟨gb499, _, none⟩) NB500_499.out _).trans (((cell_far (p := ⟨gb499, _, none⟩) NB500_499.out _).trans (kF NB500_499.out hHeld.2.2.2.2.2.2.1)))))))))))))))), ((cell_far (p := ⟨gb499, _, none⟩) NB500_499.out _).trans (((cell_far (p := ⟨gb499, _, none⟩) NB500_499.out _).trans (((cell_far (p := ⟨gb499, _, none⟩) NB500_499.out _).trans (((cell_far (p := ⟨gb499, _, none⟩) NB500_499.out _).trans (((cell_far (p := ⟨gb499, _, none⟩) NB500_499.out _).trans (((cell_far (p := ⟨gb499, _, none⟩) NB500_499.out _).trans (((cell_far (p := ⟨gb499, _, none⟩) NB500_499.out _).trans (((cell_far (p := ⟨gb499, _, none⟩) NB500_499.out _).trans (kF NB500_499.out hHeld.2.2.2.2.2.2.2.1)))))))))))))))), ((cell_far (p := ⟨gb499, _, none⟩) NB500_499.out _).trans (((cell_far (p := ⟨gb499, _, none⟩) NB500_499.out _).trans (((cell_far (p := ⟨gb499, _, none⟩) NB500_499.out _).trans (((cell_far (p := ⟨gb499, _, none⟩) NB500_499.out _).trans (((cell_far (p := ⟨gb499, _, none⟩) NB500_499.out _).trans (((cell_far (p := ⟨gb499, _, none⟩) NB500_499.out _).trans (((cell_far (p := ⟨gb499, _, none⟩) NB500_499.out _).trans (((cell_far (p := ⟨gb499, _, none⟩) NB500_499.out _).trans (kF NB500_499.out hHeld.2.2.2.2.2.2.2.2.1)))))))))))))))), ((cell_far (p := ⟨gb499, _, none⟩) NB500_499.out _).trans (((cell_far (p := ⟨gb499, _, none⟩) NB500_499.out _).trans (((cell_far (p := ⟨gb499, _, none⟩) NB500_499.out _).trans (((cell_far (p := ⟨gb499, _, none⟩) NB500_499.out _).trans (((cell_far (p := ⟨gb499, _, none⟩) NB500_499.out _).trans (((cell_far (p := ⟨gb499, _, none⟩) NB500_499.out _).trans (((cell_far (p := ⟨gb499, _, none⟩) NB500_499.out _).trans (((cell_far (p := ⟨gb499, _, none⟩) NB500_499.out _).trans (kF NB500_499.out hHeld.2.2.2.2.2.2.2.2.2.1)))))))))))))))), ((cell_far (p := ⟨gb499, _, none⟩) NB500_499.out _).trans (((cell_far (p := ⟨gb499, _, none⟩) NB500_499.out _).trans (((cell_far (p := ⟨gb499, _, none⟩) NB500_499.out _).trans (((cell_far (p := ⟨gb499, _, none⟩) NB500_499.out _).trans (((cell_far (p := ⟨gb499, _, none⟩) NB500_499.out _).trans (((cell_far (p := ⟨gb499, _, none⟩) NB500_499.out _).trans (((cell_far (p := ⟨gb499, _, none⟩) NB500_499.out _).trans (((cell_far (p := ⟨gb499, _, none⟩) NB500_499.out _).trans (kF NB500_499.out hHeld.2.2.2.2.2.2.2.2.2.2.1)))))))))))))))), ((cell_far (p := ⟨gb499, _, none⟩) NB500_499.out _).trans (((cell_far (p := ⟨gb499, _, none⟩) NB500_499.out _).trans (((cell_far (p := ⟨gb499, _, none⟩) NB500_499.out _).trans (((cell_far (p := ⟨gb499, _, none⟩) NB500_499.out _).trans (((cell_far (p := ⟨gb499, _, none⟩) NB500_499.out _).trans (((cell_far (p := ⟨gb499, _, none⟩) NB500_499.out _).trans (((cell_far (p := ⟨gb499, _, none⟩) NB500_499.out _).trans (((cell_far (p := ⟨gb499, _, none⟩) NB500_499.out _).trans (kF NB500_499.out hHeld.2.2.2.2.2.2.2.2.2.2.2))))))))))))))))⟩ (fun hHeld => ?_)
    clear hK K
    refine kP 20 3 #[I, I, I, I, I, I, I, I, I, I, I, I, I, I, I, I, I, I, I, I, I] ?_ (any_of HT_.out (by kernel_rfl))
    refine done_ (done_of HT_.out (by kernel_rfl)) ?_
    try go_wp2
    refine bodyPost_ret (results_ct rfl _ _ gb499 30 #[.bool t520, .int .u64 t521, .int .u64 t522, .bool t523, .int .u64 t524, .int .u64 t525, .int .i64 t526, .int .i64 t528, .string t531] (0, 0) _ rfl (by refine kb ?_; exact blk_all_9 (kb BK499.out) (by rfl)) Tryd.underlying30 rfl (by kernel_rfl)) rfl ?_
    exact ⟨kE, by exact kB3 HB.out GE499.out GE500.out GE519.out⟩
   rw [if_neg c10] at H
   have c10b0 : (t529 == 0) = false := beq_eq_false_iff_ne.mpr c10
   have c10b1 : (t529 != 0) = true := bne_iff_ne.mpr c10
   simp only [Option.some.injEq, Prod.mk.injEq] at H
   obtain ⟨rfl, rfl, rfl, rfl, rfl, rfl, rfl, rfl, rfl, rfl⟩ := H
   go_enter Tryd.func16, Tryd.ntmps16
   try go_wp2_with (first | ((with_reducible refine gate_dst (N := 2) rfl ?_); refine box_event rfl (N := 2) rfl (cs := #[.bool false, .int .u64 0, .int .u64 0, .bool false, .int .u64 0, .int .u64 0, .int .i64 0, .int .i64 0, .string (⟨#[]⟩ : ByteArray)]) (t := 30) kG ?_; intro gb499 hg w28 hbox hb; have BK499 := As (hbox); have GW499 := As (gS hg (below_size (kB HB.out))); have GE499 := As (gS hg (below_size (kB HB.out))); replace HB := As (below_step (kB HB.out) hb); clear hb hbox hg) | ((with_reducible refine gate_dst (N := 4) rfl ?_); refine box_event rfl (N := 4) rfl (cs := #[.bool false, .int .u64 0, .int .u64 0, .bool false, .int .u64 0, .int .u64 0, .int .i64 0, .int .i64 0, .int .i64 0, .int .i64 0, .bool false, .string (⟨#[]⟩ : ByteArray)]) (t := 66) kG ?_; intro gb500 hg w29 hbox hb; have BK500 := As (hbox); have GW500 := As (gS hg (below_size (kB1 HB.out GE499.out))); have GE500 := As (gS hg (below_size (kB1 HB.out GE499.out))); replace HB := As (below_step (kB1 HB.out GE499.out) hb); have NB499_500 := As (gN hg (blk_lt (kb BK499.out))); have NB500_499 := As (gM hg (blk_lt (kb BK499.out))); replace BK499 := As (blk_below (kb BK499.out) hb); clear hb hbox hg) | ((with_reducible refine gate_store (t := 66) (p := 4) rfl ?_); refine store_rowev_12 gb500 (.bool false) (.int .u64 0) (.int .u64 0) (.bool false) (.int .u64 0) (.int .u64 0) (.int .i64 0) (.int .i64 0) (.int .i64 0) (.int .i64 0) (.bool false) (.string (⟨#[]⟩ : ByteArray)) rfl (t := 66) (p := 4) (v := _) rfl rfl rfl rfl (t' := 66) (kb BK500.out) (by rfl) (by kernel_rfl) (by rfl) ?_; have p5 : 0 ≤ (0 : Int) := (by omega); have q5 : 0 < a0.size := (by have : (0 : Int) < (a0.size : Int) := of_decide_eq_true (by first | (with_reducible assumption) | assumption); omega); have hx5 : ∀ h : 0 < a0.size, ((a0[0]'h).toNat : Int) = bt a0 0 := bt_at a0 0; clear p5; have qi5 : (0 < (a0.size : Int)) = True := eq_true (of_decide_eq_true (by first | (with_reducible assumption) | assumption)); replace q5 := eq_true q5) | ((with_reducible refine gate_callee (f := 39) rfl ?_); refine goesL_ (some 19) rfl rfl Tryd.func39 (by kernel_rfl) rfl #[.string a0] rfl kA ?_; (with_reducible refine (ipv4_Decode.calls k a0 t501 t502 t503 t504 t505 t506 t507 t508 t509 t510 t511 t512 t513 t514 t517 t518 _ A7.out).mono ?_); rintro e w30 ⟨v515, rfl, ho0, hb⟩; refine ⟨_, rfl, ?_⟩; have HO516 := As (Kd.R_lower ho0 (below_size (kB2 HB.out GE499.out GE500.out))); replace BK499 := As (blk_below (g := gb499) (o := .cells #[.bool false, .int .u64 0, .int .u64 0, .bool false, .int .u64 0, .int .u64 0, .int .i64 0, .int .i64 0, .string (⟨#[]⟩ : ByteArray)] 30 (0, 0)) (by refine kb ?_; (iterate 12 (refine blk_far ?_ NB499_500.out _; refine kb ?_)); exact BK499.out) hb); replace BK500 := As (blk_below (g := gb500) (o := .cells #[.bool false, .int .u64 0, .int .u64 0, .bool false, .int .u64 0, .int .u64 0, .int .i64 0, .int .i64 0, .int .i64 0, .int .i64 0, .bool false, .string (⟨#[]⟩ : ByteArray)] 66 (0, 0)) (by refine kb ?_; exact blk_all_12 (kb BK500.out) (by rfl)) hb); replace HB := As (below_step (kB2 HB.out GE499.out GE500.out) hb); (try clear hb); (try clear ho0)) | ((with_reducible refine gate_dst (N := 5) rfl ?_); refine box_event rfl (N := 5) rfl (cs := #[.int .i64 0, .int .i64 0, .int .i64 0, .int .i64 0, .bool false, .bool false, .int .i64 0, .bool false, .int .u64 0, .int .u64 0, .bool false, .int .u64 0, .int .u64 0, .slice none 0 0, .string (⟨#[]⟩ : ByteArray)]) (t := 64) kG ?_; intro gb519 hg w31 hbox hb; replace HO516 := As (Kd.R_below (kR HO516.out) hb); have BK519 := As (hbox); have GW519 := As (gS hg (below_size (kB2 HB.out GE499.out GE500.out))); have GE519 := As (gS hg (below_size (kB2 HB.out GE499.out GE500.out))); replace HB := As (below_step (kB2 HB.out GE499.out GE500.out) hb); have NB499_519 := As (gN hg (blk_lt (kb BK499.out))); have NB519_499 := As (gM hg (blk_lt (kb BK499.out))); replace BK499 := As (blk_below (kb BK499.out) hb); have NB500_519 := As (gN hg (blk_lt (kb BK500.out))); have NB519_500 := As (gM hg (blk_lt (kb BK500.out))); replace BK500 := As (blk_below (kb BK500.out) hb); clear hb hbox hg; obtain ⟨Ao32, co32, eo32⟩ := Kd.R_slice HO516.out; subst eo32) | ((with_reducible refine gate_store (t := 64) (p := 5) rfl ?_); refine store_rowev_15 gb519 (.int .i64 t501) (.int .i64 t502) (.int .i64 t503) (.int .i64 t504) (.bool t505) (.bool t506) (.int .i64 t507) (.bool t508) (.int .u64 t509) (.int .u64 t510) (.bool t511) (.int .u64 t512) (.int .u64 t513) (.slice Ao32 t514.length co32) (.string t517) rfl (t := 64) (p := 5) (v := _) rfl rfl rfl rfl (t' := 64) (kb BK519.out) (by rfl) (by kernel_rfl) (by rfl) ?_) | ((with_reducible refine gate_dst (N := 25) rfl ?_); (try (refine gate_guard (by rfl) ?_; dsimp only)); refine wpList_load_row ?hgd 64 _ rfl gb519 rfl 64 #[.int .i64 t501, .int .i64 t502, .int .i64 t503, .int .i64 t504, .bool t505, .bool t506, .int .i64 t507, .bool t508, .int .u64 t509, .int .u64 t510, .bool t511, .int .u64 t512, .int .u64 t513, .slice Ao32 t514.length co32, .string t517] (0, 0) _ (by refine kb ?_; exact blk_all_15 (kb BK519.out) (by rfl)) Tryd.underlying64 rfl (by kernel_rfl) ?_; (case hgd => rfl)) | ((with_reducible refine gate_callee (f := 40) rfl ?_); refine goesL_ (some 26) rfl rfl Tryd.func40 (by kernel_rfl) rfl #[.agg #[.int .i64 t501, .int .i64 t502, .int .i64 t503, .int .i64 t504, .bool t505, .bool t506, .int .i64 t507, .bool t508, .int .u64 t509, .int .u64 t510, .bool t511, .int .u64 t512, .int .u64 t513, .slice Ao32 t514.length co32, .string t517]] rfl kA ?_; (with_reducible refine (ipv4_Fragment.calls t501 t502 t503 t504 t505 t506 t507 t508 t509 t510 t511 t512 t513 _ _ t514 t517 t520 t521 t522 t523 t524 t525 t526 t527 t528 t529 t530 t531 _ ?side1 ?side2 A9.out).mono ?_); (case side1 => refine (Kd.R_reads' (e := 125) (base := w.heap.size) (ok := fun k_ => True) (n := t514.length) (c := co32) ?_).2.2; exact (by refine kR ?_; exact (Kd.R_mono (Kd.R_puts_0_15 gb519 (.int .i64 t501) (.int .i64 t502) (.int .i64 t503) (.int .i64 t504) (.bool t505) (.bool t506) (.int .i64 t507) (.bool t508) (.int .u64 t509) (.int .u64 t510) (.bool t511) (.int .u64 t512) (.int .u64 t513) (.slice Ao32 t514.length co32) (.string t517) (Kd.R_types HO516.out BK519.out (by decide)) (fun _ hk => hk.2)) (fun _ h_ => h_.1)))); (case side2 => exact (Kd.R_reads' HO516.out).2.1); rintro e w33 ⟨rfl, hb⟩; refine ⟨_, rfl, ?_⟩; replace HO516 := As (Kd.R_below (by refine kR ?_; exact (Kd.R_mono (Kd.R_puts_0_15 gb519 (.int .i64 t501) (.int .i64 t502) (.int .i64 t503) (.int .i64 t504) (.bool t505) (.bool t506) (.int .i64 t507) (.bool t508) (.int .u64 t509) (.int .u64 t510) (.bool t511) (.int .u64 t512) (.int .u64 t513) (.slice Ao32 t514.length co32) (.string t517) (Kd.R_types HO516.out BK519.out (by decide)) (fun _ hk => hk.2)) (fun _ h_ => h_.1))) hb); replace BK499 := As (blk_below (g := gb499) (o := .cells #[.bool false, .int .u64 0, .int .u64 0, .bool false, .int .u64 0, .int .u64 0, .int .i64 0, .int .i64 0, .string (⟨#[]⟩ : ByteArray)] 30 (0, 0)) (by refine kb ?_; (iterate 15 (refine blk_far ?_ NB499_519.out _; refine kb ?_)); exact BK499.out) hb); replace BK500 := As (blk_below (g := gb500) (o := .cells #[.bool false, .int .u64 0, .int .u64 0, .bool false, .int .u64 0, .int .u64 0, .int .i64 0, .int .i64 0, .int .i64 0, .int .i64 0, .bool false, .string (⟨#[]⟩ : ByteArray)] 66 (0, 0)) (by refine kb ?_; (iterate 15 (refine blk_far ?_ NB500_519.out _; refine kb ?_)); exact BK500.out) hb); replace BK519 := As (blk_below (g := gb519) (o := .cells #[.int .i64 t501, .int .i64 t502, .int .i64 t503, .int .i64 t504, .bool t505, .bool t506, .int .i64 t507, .bool t508, .int .u64 t509, .int .u64 t510, .bool t511, .int .u64 t512, .int .u64 t513, .slice Ao32 t514.length co32, .string t517] 64 (0, 0)) (by refine kb ?_; exact blk_all_15 (kb BK519.out) (by rfl)) hb); replace HB := As (below_step (kB3 HB.out GE499.out GE500.out GE519.out) hb); (try clear hb); (try clear hk)) | ((with_reducible refine gate_store (t := 66) (p := 4) rfl ?_); refine store_rowev_12 gb500 (.bool t520) (.int .u64 t521) (.int .u64 t522) (.bool t523) (.int .u64 t524) (.int .u64 t525) (.int .i64 t526) (.int .i64 t527) (.int .i64 t528) (.int .i64 t529) (.bool t530) (.string t531) rfl (t := 66) (p := 4) (v := _) rfl rfl rfl rfl (t' := 66) (kb BK500.out) (by rfl) (by kernel_rfl) (by rfl) ?_))
   have n0_ : Aside0 (Kd.R k125 125 ((((((((((((w33.setCell ⟨gb500, 0, none⟩ (.bool t520)).setCell ⟨gb500, 1, none⟩ (.int .u64 t521)).setCell ⟨gb500, 2, none⟩ (.int .u64 t522)).setCell ⟨gb500, 3, none⟩ (.bool t523)).setCell ⟨gb500, 4, none⟩ (.int .u64 t524)).setCell ⟨gb500, 5, none⟩ (.int .u64 t525)).setCell ⟨gb500, 6, none⟩ (.int .i64 t526)).setCell ⟨gb500, 7, none⟩ (.int .i64 t527)).setCell ⟨gb500, 8, none⟩ (.int .i64 t528)).setCell ⟨gb500, 9, none⟩ (.int .i64 t529)).setCell ⟨gb500, 10, none⟩ (.bool t530)).setCell ⟨gb500, 11, none⟩ (.string t531)) w.heap.size (fun _ => True) (.slice Ao32 t514.length co32) t514) := ⟨by (with_reducible repeat (first | apply Kd.R_alloc | apply Kd.R_drewN | apply Kd.R_drew)); exact Kd.R_mono (Kd.R_puts_0_12 gb500 (.bool t520) (.int .u64 t521) (.int .u64 t522) (.bool t523) (.int .u64 t524) (.int .u64 t525) (.int .i64 t526) (.int .i64 t527) (.int .i64 t528) (.int .i64 t529) (.bool t530) (.string t531) (Kd.R_types HO516.out BK500.out (by decide)) (fun _ hk => hk.2)) (fun _ hk => trivial)⟩
   have n1_ : Aside0 (((((((((((((w33.setCell ⟨gb500, 0, none⟩ (.bool t520)).setCell ⟨gb500, 1, none⟩ (.int .u64 t521)).setCell ⟨gb500, 2, none⟩ (.int .u64 t522)).setCell ⟨gb500, 3, none⟩ (.bool t523)).setCell ⟨gb500, 4, none⟩ (.int .u64 t524)).setCell ⟨gb500, 5, none⟩ (.int .u64 t525)).setCell ⟨gb500, 6, none⟩ (.int .i64 t526)).setCell ⟨gb500, 7, none⟩ (.int .i64 t527)).setCell ⟨gb500, 8, none⟩ (.int .i64 t528)).setCell ⟨gb500, 9, none⟩ (.int .i64 t529)).setCell ⟨gb500, 10, none⟩ (.bool t530)).setCell ⟨gb500, 11, none⟩ (.string t531)).heap[gb499]? = some (.cells #[.bool false, .int .u64 0, .int .u64 0, .bool false, .int .u64 0, .int .u64 0, .int .i64 0, .int .i64 0, .string (⟨#[]⟩ : ByteArray)] 30 (0, 0))) := ⟨by refine kb ?_; (iterate 12 (refine blk_far ?_ NB499_500.out _; refine kb ?_)); exact BK499.out⟩
   have n2_ : Aside0 (((((((((((((w33.setCell ⟨gb500, 0, none⟩ (.bool t520)).setCell ⟨gb500, 1, none⟩ (.int .u64 t521)).setCell ⟨gb500, 2, none⟩ (.int .u64 t522)).setCell ⟨gb500, 3, none⟩ (.bool t523)).setCell ⟨gb500, 4, none⟩ (.int .u64 t524)).setCell ⟨gb500, 5, none⟩ (.int .u64 t525)).setCell ⟨gb500, 6, none⟩ (.int .i64 t526)).setCell ⟨gb500, 7, none⟩ (.int .i64 t527)).setCell ⟨gb500, 8, none⟩ (.int .i64 t528)).setCell ⟨gb500, 9, none⟩ (.int .i64 t529)).setCell ⟨gb500, 10, none⟩ (.bool t530)).setCell ⟨gb500, 11, none⟩ (.string t531)).heap[gb500]? = some (.cells #[.bool t520, .int .u64 t521, .int .u64 t522, .bool t523, .int .u64 t524, .int .u64 t525, .int .i64 t526, .int .i64 t527, .int .i64 t528, .int .i64 t529, .bool t530, .string t531] 66 (0, 0))) := ⟨by refine kb ?_; exact blk_all_12 (kb BK500.out) (by rfl)⟩
   have n3_ : Aside0 (((((((((((((w33.setCell ⟨gb500, 0, none⟩ (.bool t520)).setCell ⟨gb500, 1, none⟩ (.int .u64 t521)).setCell ⟨gb500, 2, none⟩ (.int .u64 t522)).setCell ⟨gb500, 3, none⟩ (.bool t523)).setCell ⟨gb500, 4, none⟩ (.int .u64 t524)).setCell ⟨gb500, 5, none⟩ (.int .u64 t525)).setCell ⟨gb500, 6, none⟩ (.int .i64 t526)).setCell ⟨gb500, 7, none⟩ (.int .i64 t527)).setCell ⟨gb500, 8, none⟩ (.int .i64 t528)).setCell ⟨gb500, 9, none⟩ (.int .i64 t529)).setCell ⟨gb500, 10, none⟩ (.bool t530)).setCell ⟨gb500, 11, none⟩ (.string t531)).heap[gb519]? = some (.cells #[.int .i64 t501, .int .i64 t502, .int .i64 t503, .int .i64 t504, .bool t505, .bool t506, .int .i64 t507, .bool t508, .int .u64 t509, .int .u64 t510, .bool t511, .int .u64 t512, .int .u64 t513, .slice Ao32 t514.length co32, .string t517] 64 (0, 0))) := ⟨by refine kb ?_; (iterate 12 (refine blk_far ?_ NB519_500.out _; refine kb ?_)); exact BK519.out⟩
   have n4_ : Aside0 (Below w.heap.size w ((((((((((((w33.setCell ⟨gb500, 0, none⟩ (.bool t520)).setCell ⟨gb500, 1, none⟩ (.int .u64 t521)).setCell ⟨gb500, 2, none⟩ (.int .u64 t522)).setCell ⟨gb500, 3, none⟩ (.bool t523)).setCell ⟨gb500, 4, none⟩ (.int .u64 t524)).setCell ⟨gb500, 5, none⟩ (.int .u64 t525)).setCell ⟨gb500, 6, none⟩ (.int .i64 t526)).setCell ⟨gb500, 7, none⟩ (.int .i64 t527)).setCell ⟨gb500, 8, none⟩ (.int .i64 t528)).setCell ⟨gb500, 9, none⟩ (.int .i64 t529)).setCell ⟨gb500, 10, none⟩ (.bool t530)).setCell ⟨gb500, 11, none⟩ (.string t531))) := ⟨kB3 HB.out GE499.out GE500.out GE519.out⟩
   (try clear HO516)
   (try clear BK499)
   (try clear BK500)
   (try clear BK519)
   (try clear HB)
   generalize ((((((((((((w33.setCell ⟨gb500, 0, none⟩ (.bool t520)).setCell ⟨gb500, 1, none⟩ (.int .u64 t521)).setCell ⟨gb500, 2, none⟩ (.int .u64 t522)).setCell ⟨gb500, 3, none⟩ (.bool t523)).setCell ⟨gb500, 4, none⟩ (.int .u64 t524)).setCell ⟨gb500, 5, none⟩ (.int .u64 t525)).setCell ⟨gb500, 6, none⟩ (.int .i64 t526)).setCell ⟨gb500, 7, none⟩ (.int .i64 t527)).setCell ⟨gb500, 8, none⟩ (.int .i64 t528)).setCell ⟨gb500, 9, none⟩ (.int .i64 t529)).setCell ⟨gb500, 10, none⟩ (.bool t530)).setCell ⟨gb500, 11, none⟩ (.string t531)) = w34 at n0_ n1_ n2_ n3_ n4_ ⊢
   have HO516 := n0_
   have BK499 := n1_
   have BK500 := n2_
   have BK519 := n3_
   have HB := n4_
   clear n0_ n1_ n2_ n3_ n4_
   replace HO516 := As (Kd.R_drew HO516.out)
   replace BK499 := As (blk_drew BK499.out)
   replace BK500 := As (blk_drew BK500.out)
   replace BK519 := As (blk_drew BK519.out)
   replace HB := As (below_drew1 HB.out)
   refine start_ (n := 21) (S := fun w' => w'.cell? ⟨gb500, 0, none⟩ = some (.bool t520) ∧ w'.cell? ⟨gb500, 1, none⟩ = some (.int .u64 t521) ∧ w'.cell? ⟨gb500, 2, none⟩ = some (.int .u64 t522) ∧ w'.cell? ⟨gb500, 3, none⟩ = some (.bool t523) ∧ w'.cell? ⟨gb500, 4, none⟩ = some (.int .u64 t524) ∧ w'.cell? ⟨gb500, 5, none⟩ = some (.int .u64 t525) ∧ w'.cell? ⟨gb500, 6, none⟩ = some (.int .i64 t526) ∧ w'.cell? ⟨gb500, 7, none⟩ = some (.int .i64 t527) ∧ w'.cell? ⟨gb500, 8, none⟩ = some (.int .i64 t528) ∧ w'.cell? ⟨gb500, 9, none⟩ = some (.int .i64 t529) ∧ w'.cell? ⟨gb500, 10, none⟩ = some (.bool t530) ∧ w'.cell? ⟨gb500, 11, none⟩ = some (.string t531)) (ds := []) #[O, O, O, O, O, O, O, O, O, O, O, O, O, O, O, O, O, O, O, O, O] (by kernel_rfl) rfl rfl ⟨kC BK500.out 0, kC BK500.out 1, kC BK500.out 2, kC BK500.out 3, kC BK500.out 4, kC BK500.out 5, kC BK500.out 6, kC BK500.out 7, kC BK500.out 8, kC BK500.out 9, kC BK500.out 10, kC BK500.out 11⟩ (fun hHeld => ?_); refine with_tabW intrusionlaw17_taken.tab13 intrusionlaw17_taken.bits13 (fun HT_ HW_ => ?_)
   generalize w34.drew = w35 at HO516 BK499 BK500 BK519 HB hHeld ⊢
   refine kP 0 37 #[I, O, O, O, O, O, O, O, O, O, O, O, O, O, O, O, O, O, O, O, O] ?_ (any_of HT_.out (by kernel_rfl))
   refine kP 2 39 #[I, O, I, O, O, O, O, O, O, O, O, O, O, O, O, O, O, O, O, O, O] ?_ (any_of HT_.out (by kernel_rfl))
   refine kP 4 41 #[I, O, I, O, I, O, O, O, O, O, O, O, O, O, O, O, O, O, O, O, O] ?_ (any_of HT_.out (by kernel_rfl))
   refine kP 6 43 #[I, O, I, O, I, O, I, O, O, O, O, O, O, O, O, O, O, O, O, O, O] ?_ (any_of HT_.out (by kernel_rfl))
   refine kP 8 45 #[I, O, I, O, I, O, I, O, I, O, O, O, O, O, O, O, O, O, O, O, O] ?_ (any_of HT_.out (by kernel_rfl))
   refine kP 11 48 #[I, O, I, O, I, O, I, O, I, O, O, I, O, O, O, O, O, O, O, O, O] ?_ (any_of HT_.out (by kernel_rfl))
   refine take_ (i := 1) (N := some 38) (v := ?_) (a' := ?_) #[I, I, I, O, I, O, I, O, I, O, O, I, O, O, O, O, O, O, O, O, O] rfl rfl (take_ofW HT_.out HW_.out (by kernel_rfl)) (fun _ _ _ h => h) (Or.inl ⟨by rfl, ?_⟩) hHeld ?_ ?_
   rotate_left
   ·rintro w' ⟨s0, s1, s2, s3, s4, s5, s6, s7, s8, s9, s10, s11⟩
    go_simp
    with_reducible rfl
   rotate_left
   ·simp only [Act.put, sA, sZ, sS, i64_w, i32_w]
    rfl
   refine take_ (i := 3) (N := some 40) (v := ?_) (a' := ?_) #[I, I, I, I, I, O, I, O, I, O, O, I, O, O, O, O, O, O, O, O, O] rfl rfl (take_ofW HT_.out HW_.out (by kernel_rfl)) (fun _ _ _ h => h) (Or.inl ⟨by rfl, ?_⟩) hHeld ?_ ?_
   rotate_left
   ·rintro w' ⟨s0, s1, s2, s3, s4, s5, s6, s7, s8, s9, s10, s11⟩
    go_simp
    with_reducible rfl
   rotate_left
   ·simp only [Act.put, sA, sZ, sS, i64_w, i32_w]
    rfl
   refine take_ (i := 5) (N := some 42) (v := ?_) (a' := ?_) #[I, I, I, I, I, I, I, O, I, O, O, I, O, O, O, O, O, O, O, O, O] rfl rfl (take_ofW HT_.out HW_.out (by kernel_rfl)) (fun _ _ _ h => h) (Or.inl ⟨by rfl, ?_⟩) hHeld ?_ ?_
   rotate_left
   ·rintro w' ⟨s0, s1, s2, s3, s4, s5, s6, s7, s8, s9, s10, s11⟩
    go_simp
    with_reducible rfl
   rotate_left
   ·simp only [Act.put, sA, sZ, sS, i64_w, i32_w]
    rfl
   refine take_ (i := 7) (N := some 44) (v := ?_) (a' := ?_) #[I, I, I, I, I, I, I, I, I, O, O, I, O, O, O, O, O, O, O, O, O] rfl rfl (take_ofW HT_.out HW_.out (by kernel_rfl)) (fun _ _ _ h => h) (Or.inl ⟨by rfl, ?_⟩) hHeld ?_ ?_
   rotate_left
   ·rintro w' ⟨s0, s1, s2, s3, s4, s5, s6, s7, s8, s9, s10, s11⟩
    go_simp
    with_reducible rfl
   rotate_left
   ·simp only [Act.put, sA, sZ, sS, i64_w, i32_w]
    rfl
   refine take_ (i := 9) (N := some 46) (v := ?_) (a' := ?_) #[I, I, I, I, I, I, I, I, I, I, O, I, O, O, O, O, O, O, O, O, O] rfl rfl (take_ofW HT_.out HW_.out (by kernel_rfl)) (fun _ _ _ h => h) (Or.inl ⟨by rfl, ?_⟩) hHeld ?_ ?_
   rotate_left
   ·rintro w' ⟨s0, s1, s2, s3, s4, s5, s6, s7, s8, s9, s10, s11⟩
    go_simp
    with_reducible rfl
   rotate_left
   ·simp only [Act.put, sA, sZ, sS, i64_w, i32_w]
    rfl
   refine kP 10 47 #[I, I, I, I, I, I, I, I, I, I, I, I, O, O, O, O, O, O, O, O, O] ?_ (any_of HT_.out (by kernel_rfl))
   refine take_ (i := 12) (N := some 49) (v := ?_) (a' := ?_) #[I, I, I, I, I, I, I, I, I, I, I, I, I, O, O, O, O, O, O, O, O] rfl rfl (take_ofW HT_.out HW_.out (by kernel_rfl)) (fun _ _ _ h => h) (Or.inl ⟨by rfl, ?_⟩) hHeld ?_ ?_
   rotate_left
   ·rintro w' ⟨s0, s1, s2, s3, s4, s5, s6, s7, s8, s9, s10, s11⟩
    go_simp
    with_reducible rfl
   rotate_left
   ·simp only [Act.put, sA, sZ, sS, i64_w, i32_w]
    rfl
   refine kP 13 50 #[I, I, I, I, I, I, I, I, I, I, I, I, I, I, O, O, O, O, O, O, O] ?_ (any_of HT_.out (by kernel_rfl))
   refine kP 14 51 #[I, I, I, I, I, I, I, I, I, I, I, I, I, I, I, O, O, O, O, O, O] ?_ (any_of HT_.out (by kernel_rfl))
   refine pure_ (i := 15) (N := some 52) (v := undef) (a' := ?_) #[I, I, I, I, I, I, I, I, I, I, I, I, I, I, I, I, O, O, O, O, O] rfl rfl (any_of HT_.out (by kernel_rfl)) (fun _ _ _ h => h) (Or.inr ⟨by rfl, rfl⟩) ?_ ?_
   rotate_left
   ·simp only [Act.put, sA, sZ, sS, i64_w, i32_w]
    rfl
   refine pure_ (i := 16) (N := some 53) (v := undef) (a' := ?_) #[I, I, I, I, I, I, I, I, I, I, I, I, I, I, I, I, I, O, O, O, O] rfl rfl (any_of HT_.out (by kernel_rfl)) (fun _ _ _ h => h) (Or.inr ⟨by rfl, rfl⟩) ?_ ?_
   rotate_left
   ·simp only [Act.put, sA, sZ, sS, i64_w, i32_w]
    rfl
   refine pure_ (i := 17) (N := some 54) (v := undef) (a' := ?_) #[I, I, I, I, I, I, I, I, I, I, I, I, I, I, I, I, I, I, O, O, O] rfl rfl (any_of HT_.out (by kernel_rfl)) (fun _ _ _ h => h) (Or.inr ⟨by rfl, rfl⟩) ?_ ?_
   rotate_left
   ·simp only [Act.put, sA, sZ, sS, i64_w, i32_w]
    rfl
   refine kP 18 55 #[I, I, I, I, I, I, I, I, I, I, I, I, I, I, I, I, I, I, I, O, O] ?_ (any_of HT_.out (by kernel_rfl))
   refine one_ (i := 19) (N := none) #[I, I, I, I, I, I, I, I, I, I, I, I, I, I, I, I, I, I, I, I, O] rfl rfl (one_of HT_.out (by kernel_rfl)) (by decide) (fun K hK => ?_)
   have hs36 : w35.cell? ⟨gb499, 0, none⟩ = some (.bool false) := (blk_cell BK499.out 0).trans rfl
   have hfs36 := blk_frozen BK499.out 0
   have hns36_1 := NB500_499.out
   have hns36_2 := NB519_499.out
   have hms36_1 := NB499_500.out
   have hms36_2 := NB499_519.out
   have hs37 : w35.cell? ⟨gb499, 1, none⟩ = some (.int .u64 0) := (blk_cell BK499.out 1).trans rfl
   have hfs37 := blk_frozen BK499.out 1
   have hns37_1 := NB500_499.out
   have hns37_2 := NB519_499.out
   have hms37_1 := NB499_500.out
   have hms37_2 := NB499_519.out
   have hs38 : w35.cell? ⟨gb499, 2, none⟩ = some (.int .u64 0) := (blk_cell BK499.out 2).trans rfl
   have hfs38 := blk_frozen BK499.out 2
   have hns38_1 := NB500_499.out
   have hns38_2 := NB519_499.out
   have hms38_1 := NB499_500.out
   have hms38_2 := NB499_519.out
   have hs39 : w35.cell? ⟨gb499, 3, none⟩ = some (.bool false) := (blk_cell BK499.out 3).trans rfl
   have hfs39 := blk_frozen BK499.out 3
   have hns39_1 := NB500_499.out
   have hns39_2 := NB519_499.out
   have hms39_1 := NB499_500.out
   have hms39_2 := NB499_519.out
   have hs40 : w35.cell? ⟨gb499, 4, none⟩ = some (.int .u64 0) := (blk_cell BK499.out 4).trans rfl
   have hfs40 := blk_frozen BK499.out 4
   have hns40_1 := NB500_499.out
   have hns40_2 := NB519_499.out
   have hms40_1 := NB499_500.out
   have hms40_2 := NB499_519.out
   have hs41 : w35.cell? ⟨gb499, 5, none⟩ = some (.int .u64 0) := (blk_cell BK499.out 5).trans rfl
   have hfs41 := blk_frozen BK499.out 5
   have hns41_1 := NB500_499.out
   have hns41_2 := NB519_499.out
   have hms41_1 := NB499_500.out
   have hms41_2 := NB499_519.out
   have hs42 : w35.cell? ⟨gb499, 6, none⟩ = some (.int .i64 0) := (blk_cell BK499.out 6).trans rfl
   have hfs42 := blk_frozen BK499.out 6
   have hns42_1 := NB500_499.out
   have hns42_2 := NB519_499.out
   have hms42_1 := NB499_500.out
   have hms42_2 := NB499_519.out
   have hs43 : w35.cell? ⟨gb499, 7, none⟩ = some (.int .i64 0) := (blk_cell BK499.out 7).trans rfl
   have hfs43 := blk_frozen BK499.out 7
   have hns43_1 := NB500_499.out
   have hns43_2 := NB519_499.out
   have hms43_1 := NB499_500.out
   have hms43_2 := NB499_519.out
   have hs44 : w35.cell? ⟨gb499, 8, none⟩ = some (.string (⟨#[]⟩ : ByteArray)) := (blk_cell BK499.out 8).trans rfl
   have hfs44 := blk_frozen BK499.out 8
   have hns44_1 := NB500_499.out
   have hns44_2 := NB519_499.out
   have hms44_1 := NB499_500.out
   have hms44_2 := NB499_519.out
   refine skip_ (w1 := ?_) (by rfl) rfl ?_ ?_
   rotate_left
   ·go_simp
    rfl
   refine hK.out _ _ ⟨((cell_far (p := ⟨gb499, _, none⟩) NB500_499.out _).trans (((cell_far (p := ⟨gb499, _, none⟩) NB500_499.out _).trans (((cell_far (p := ⟨gb499, _, none⟩) NB500_499.out _).trans (((cell_far (p := ⟨gb499, _, none⟩) NB500_499.out _).trans (((cell_far (p := ⟨gb499, _, none⟩) NB500_499.out _).trans (((cell_far (p := ⟨gb499, _, none⟩) NB500_499.out _).trans (((cell_far (p := ⟨gb499, _, none⟩) NB500_499.out _).trans (((cell_far (p := ⟨gb499, _, none⟩) NB500_499.out _).trans (kF NB500_499.out hHeld.1)))))))))))))))), ((cell_far (p := ⟨gb499, _, none⟩) NB500_499.out _).trans (((cell_far (p := ⟨gb499, _, none⟩) NB500_499.out _).trans (((cell_far (p := ⟨gb499, _, none⟩) NB500_499.out _).trans (((cell_far (p := ⟨gb499, _, none⟩) NB500_499.out _).trans (((cell_far (p := ⟨gb499, _, none⟩) NB500_499.out _).trans (((cell_far (p := ⟨gb499, _, none⟩) NB500_499.out _).trans (((cell_far (p := ⟨gb499, _, none⟩) NB500_499.out _).trans (((cell_far (p := ⟨gb499, _, none⟩) NB500_499.out _).trans (kF NB500_499.out hHeld.2.1)))))))))))))))), ((cell_far (p := ⟨gb499, _, none⟩) NB500_499.out _).trans (((cell_far (p := ⟨gb499, _, none⟩) NB500_499.out _).trans (((cell_far (p := ⟨gb499, _, none⟩) NB500_499.out _).trans (((cell_far (p := ⟨gb499, _, none⟩) NB500_499.out _).trans (((cell_far (p := ⟨gb499, _, none⟩) NB500_499.out _).trans (((cell_far (p := ⟨gb499, _, none⟩) NB500_499.out _).trans (((cell_far (p := ⟨gb499, _, none⟩) NB500_499.out _).trans (((cell_far (p := ⟨gb499, _, none⟩) NB500_499.out _).trans (kF NB500_499.out hHeld.2.2.1)))))))))))))))), ((cell_far (p := ⟨gb499, _, none⟩) NB500_499.out _).trans (((cell_far (p := ⟨gb499, _, none⟩) NB500_499.out _).trans (((cell_far (p := ⟨gb499, _, none⟩) NB500_499.out _).trans (((cell_far (p := ⟨gb499, _, none⟩) NB500_499.out _).trans (((cell_far (p := ⟨gb499, _, none⟩) NB500_499.out _).trans (((cell_far (p := ⟨gb499, _, none⟩) NB500_499.out _).trans (((cell_far (p := ⟨gb499, _, none⟩) NB500_499.out _).trans (((cell_far (p := ⟨gb499, _, none⟩) NB500_499.out _).trans (kF NB500_499.out hHeld.2.2.2.1)))))))))))))))), ((cell_far (p := ⟨gb499, _, none⟩) NB500_499.out _).trans (((cell_far (p := ⟨gb499, _, none⟩) NB500_499.out _).trans (((cell_far (p := ⟨gb499, _, none⟩) NB500_499.out _).trans (((cell_far (p := ⟨gb499, _, none⟩) NB500_499.out _).trans (((cell_far (p := ⟨gb499, _, none⟩) NB500_499.out _).trans (((cell_far (p := ⟨gb499, _, none⟩) NB500_499.out _).trans (((cell_far (p := ⟨gb499, _, none⟩) NB500_499.out _).trans (((cell_far (p := ⟨gb499, _, none⟩) NB500_499.out _).trans (kF NB500_499.out hHeld.2.2.2.2.1)))))))))))))))), ((cell_far (p := ⟨gb499, _, none⟩) NB500_499.out _).trans (((cell_far (p := ⟨gb499, _, none⟩) NB500_499.out _).trans (((cell_far (p := ⟨gb499, _, none⟩) NB500_499.out _).trans (((cell_far (p := ⟨gb499, _, none⟩) NB500_499.out _).trans (((cell_far (p := ⟨gb499, _, none⟩) NB500_499.out _).trans (((cell_far (p := ⟨gb499, _, none⟩) NB500_499.out _).trans (((cell_far (p := ⟨gb499, _, none⟩) NB500_499.out _).trans (((cell_far (p := ⟨gb499, _, none⟩) NB500_499.out _).trans (kF NB500_499.out hHeld.2.2.2.2.2.1)))))))))))))))), ((cell_far (p := ⟨gb499, _, none⟩) NB500_499.out _).trans (((cell_far (p := ⟨gb499, _, none⟩) NB500_499.out _).trans (((cell_far (p := ⟨gb499, _, none⟩) NB500_499.out _).trans (((cell_far (p := ⟨gb499, _, none⟩) NB500_499.out _).trans (((cell_far (p := ⟨gb499, _, none⟩) NB500_499.out _).trans (((cell_far (p := ⟨gb499, _, none⟩) NB500_499.out _).trans (((cell_far (p := ⟨gb499, _, none⟩) NB500_499.out _).trans (((cell_far (p := ⟨gb499, _, none⟩) NB500_499.out _).trans (kF NB500_499.out hHeld.2.2.2.2.2.2.1)))))))))))))))), ((cell_far (p := ⟨gb499, _, none⟩) NB500_499.out _).trans (((cell_far (p := ⟨gb499, _, none⟩) NB500_499.out _).trans (((cell_far (p := ⟨gb499, _, none⟩) NB500_499.out _).trans (((cell_far (p := ⟨gb499, _, none⟩) NB500_499.out _).trans (((cell_far (p := ⟨gb499, _, none⟩) NB500_499.out _).trans (((cell_far (p := ⟨gb499, _, none⟩) NB500_499.out _).trans (((cell_far (p := ⟨gb499, _, none⟩) NB500_499.out _).trans (((cell_far (p := ⟨gb499, _, none⟩) NB500_499.out _).trans (kF NB500_499.out hHeld.2.2.2.2.2.2.2.1)))))))))))))))), ((cell_far (p := ⟨gb499, _, none⟩) NB500_499.out _).trans (((cell_far (p := ⟨gb499, _, none⟩) NB500_499.out _).trans (((cell_far (p := ⟨gb499, _, none⟩) NB500_499.out _).trans (((cell_far (p := ⟨gb499, _, none⟩) NB500_499.out _).trans (((cell_far (p := ⟨gb499, _, none⟩) NB500_499.out _).trans (((cell_far (p := ⟨gb499, _, none⟩) NB500_499.out _).trans (((cell_far (p := ⟨gb499, _, none⟩) NB500_499.out _).trans (((cell_far (p := ⟨gb499, _, none⟩) NB500_499.out _).trans (kF NB500_499.out hHeld.2.2.2.2.2.2.2.2.1)))))))))))))))), ((cell_far (p := ⟨gb499, _, none⟩) NB500_499.out _).trans (((cell_far (p := ⟨gb499, _, none⟩) NB500_499.out _).trans (((cell_far (p := ⟨gb499, _, none⟩) NB500_499.out _).trans (((cell_far (p := ⟨gb499, _, none⟩) NB500_499.out _).trans (((cell_far (p := ⟨gb499, _, none⟩) NB500_499.out _).trans (((cell_far (p := ⟨gb499, _, none⟩) NB500_499.out _).trans (((cell_far (p := ⟨gb499, _, none⟩) NB500_499.out _).trans (((cell_far (p := ⟨gb499, _, none⟩) NB500_499.out _).trans (kF NB500_499.out hHeld.2.2.2.2.2.2.2.2.2.1)))))))))))))))), ((cell_far (p := ⟨gb499, _, none⟩) NB500_499.out _).trans (((cell_far (p := ⟨gb499, _, none⟩) NB500_499.out _).trans (((cell_far (p := ⟨gb499, _, none⟩) NB500_499.out _).trans (((cell_far (p := ⟨gb499, _, none⟩) NB500_499.out _).trans (((cell_far (p := ⟨gb499, _, none⟩) NB500_499.out _).trans (((cell_far (p := ⟨gb499, _, none⟩) NB500_499.out _).trans (((cell_far (p := ⟨gb499, _, none⟩) NB500_499.out _).trans (((cell_far (p := ⟨gb499, _, none⟩) NB500_499.out _).trans (kF NB500_499.out hHeld.2.2.2.2.2.2.2.2.2.2.1)))))))))))))))), ((cell_far (p := ⟨gb499, _, none⟩) NB500_499.out _).trans (((cell_far (p := ⟨gb499, _, none⟩) NB500_499.out _).trans (((cell_far (p := ⟨gb499, _, none⟩) NB500_499.out _).trans (((cell_far (p := ⟨gb499, _, none⟩) NB500_499.out _).trans (((cell_far (p := ⟨gb499, _, none⟩) NB500_499.out _).trans (((cell_far (p := ⟨gb499, _, none⟩) NB500_499.out _).trans (((cell_far (p := ⟨gb499, _, none⟩) NB500_499.out _).trans (((cell_far (p := ⟨gb499, _, none⟩) NB500_499.out _).trans (kF NB500_499.out hHeld.2.2.2.2.2.2.2.2.2.2.2))))))))))))))))⟩ (fun hHeld => ?_)
   clear hK K
   refine kP 20 3 #[I, I, I, I, I, I, I, I, I, I, I, I, I, I, I, I, I, I, I, I, I] ?_ (any_of HT_.out (by kernel_rfl))
   refine done_ (done_of HT_.out (by kernel_rfl)) ?_
   try go_wp2
   refine bodyPost_ret (results_ct rfl _ _ gb499 30 #[.bool t520, .int .u64 t521, .int .u64 t522, .bool t523, .int .u64 t524, .int .u64 t525, .int .i64 t526, .int .i64 t528, .string t531] (0, 0) _ rfl (by refine kb ?_; exact blk_all_9 (kb BK499.out) (by rfl)) Tryd.underlying30 rfl (by kernel_rfl)) rfl ?_
   exact ⟨kE, by exact kB3 HB.out GE499.out GE500.out GE519.out⟩
  rw [if_neg c8] at H
  have c8b0 : (t518 == 0) = false := beq_eq_false_iff_ne.mpr c8
  have c8b1 : (t518 != 0) = true := bne_iff_ne.mpr c8
  simp only [Option.some.injEq, Prod.mk.injEq] at H
  obtain ⟨rfl, rfl, rfl, rfl, rfl, rfl, rfl, rfl, rfl, rfl⟩ := H
  go_enter Tryd.func16, Tryd.ntmps16
  go_wp2_with (first | ((with_reducible refine gate_dst (N := 2) rfl ?_); refine box_event rfl (N := 2) rfl (cs := #[.bool false, .int .u64 0, .int .u64 0, .bool false, .int .u64 0, .int .u64 0, .int .i64 0, .int .i64 0, .string (⟨#[]⟩ : ByteArray)]) (t := 30) kG ?_; intro gb499 hg w45 hbox hb; have BK499 := As (hbox); have GW499 := As (gS hg (below_size (kB HB.out))); have GE499 := As (gS hg (below_size (kB HB.out))); replace HB := As (below_step (kB HB.out) hb); clear hb hbox hg) | ((with_reducible refine gate_dst (N := 4) rfl ?_); refine box_event rfl (N := 4) rfl (cs := #[.bool false, .int .u64 0, .int .u64 0, .bool false, .int .u64 0, .int .u64 0, .int .i64 0, .int .i64 0, .int .i64 0, .int .i64 0, .bool false, .string (⟨#[]⟩ : ByteArray)]) (t := 66) kG ?_; intro gb500 hg w46 hbox hb; have BK500 := As (hbox); have GW500 := As (gS hg (below_size (kB1 HB.out GE499.out))); have GE500 := As (gS hg (below_size (kB1 HB.out GE499.out))); replace HB := As (below_step (kB1 HB.out GE499.out) hb); have NB499_500 := As (gN hg (blk_lt (kb BK499.out))); have NB500_499 := As (gM hg (blk_lt (kb BK499.out))); replace BK499 := As (blk_below (kb BK499.out) hb); clear hb hbox hg) | ((with_reducible refine gate_store (t := 66) (p := 4) rfl ?_); refine store_rowev_12 gb500 (.bool false) (.int .u64 0) (.int .u64 0) (.bool false) (.int .u64 0) (.int .u64 0) (.int .i64 0) (.int .i64 0) (.int .i64 0) (.int .i64 0) (.bool false) (.string (⟨#[]⟩ : ByteArray)) rfl (t := 66) (p := 4) (v := _) rfl rfl rfl rfl (t' := 66) (kb BK500.out) (by rfl) (by kernel_rfl) (by rfl) ?_; have p5 : 0 ≤ (0 : Int) := (by omega); have q5 : 0 < a0.size := (by have : (0 : Int) < (a0.size : Int) := of_decide_eq_true (by first | (with_reducible assumption) | assumption); omega); have hx5 : ∀ h : 0 < a0.size, ((a0[0]'h).toNat : Int) = bt a0 0 := bt_at a0 0; clear p5; have qi5 : (0 < (a0.size : Int)) = True := eq_true (of_decide_eq_true (by first | (with_reducible assumption) | assumption)); replace q5 := eq_true q5) | ((with_reducible refine gate_callee (f := 39) rfl ?_); refine goesL_ (some 19) rfl rfl Tryd.func39 (by kernel_rfl) rfl #[.string a0] rfl kA ?_; (with_reducible refine (ipv4_Decode.calls k a0 t501 t502 t503 t504 t505 t506 t507 t508 t509 t510 t511 t512 t513 t514 t517 t518 _ A7.out).mono ?_); rintro e w47 ⟨v515, rfl, ho0, hb⟩; refine ⟨_, rfl, ?_⟩; have HO516 := As (Kd.R_lower ho0 (below_size (kB2 HB.out GE499.out GE500.out))); replace BK499 := As (blk_below (g := gb499) (o := .cells #[.bool false, .int .u64 0, .int .u64 0, .bool false, .int .u64 0, .int .u64 0, .int .i64 0, .int .i64 0, .string (⟨#[]⟩ : ByteArray)] 30 (0, 0)) (by refine kb ?_; (iterate 12 (refine blk_far ?_ NB499_500.out _; refine kb ?_)); exact BK499.out) hb); replace BK500 := As (blk_below (g := gb500) (o := .cells #[.bool false, .int .u64 0, .int .u64 0, .bool false, .int .u64 0, .int .u64 0, .int .i64 0, .int .i64 0, .int .i64 0, .int .i64 0, .bool false, .string (⟨#[]⟩ : ByteArray)] 66 (0, 0)) (by refine kb ?_; exact blk_all_12 (kb BK500.out) (by rfl)) hb); replace HB := As (below_step (kB2 HB.out GE499.out GE500.out) hb); (try clear hb); (try clear ho0)) | ((with_reducible refine gate_dst (N := 5) rfl ?_); refine box_event rfl (N := 5) rfl (cs := #[.int .i64 0, .int .i64 0, .int .i64 0, .int .i64 0, .bool false, .bool false, .int .i64 0, .bool false, .int .u64 0, .int .u64 0, .bool false, .int .u64 0, .int .u64 0, .slice none 0 0, .string (⟨#[]⟩ : ByteArray)]) (t := 64) kG ?_; intro gb519 hg w48 hbox hb; replace HO516 := As (Kd.R_below (kR HO516.out) hb); have BK519 := As (hbox); have GW519 := As (gS hg (below_size (kB2 HB.out GE499.out GE500.out))); have GE519 := As (gS hg (below_size (kB2 HB.out GE499.out GE500.out))); replace HB := As (below_step (kB2 HB.out GE499.out GE500.out) hb); have NB499_519 := As (gN hg (blk_lt (kb BK499.out))); have NB519_499 := As (gM hg (blk_lt (kb BK499.out))); replace BK499 := As (blk_below (kb BK499.out) hb); have NB500_519 := As (gN hg (blk_lt (kb BK500.out))); have NB519_500 := As (gM hg (blk_lt (kb BK500.out))); replace BK500 := As (blk_below (kb BK500.out) hb); clear hb hbox hg; obtain ⟨Ao49, co49, eo49⟩ := Kd.R_slice HO516.out; subst eo49) | ((with_reducible refine gate_store (t := 64) (p := 5) rfl ?_); refine store_rowev_15 gb519 (.int .i64 t501) (.int .i64 t502) (.int .i64 t503) (.int .i64 t504) (.bool t505) (.bool t506) (.int .i64 t507) (.bool t508) (.int .u64 t509) (.int .u64 t510) (.bool t511) (.int .u64 t512) (.int .u64 t513) (.slice Ao49 t514.length co49) (.string t517) rfl (t := 64) (p := 5) (v := _) rfl rfl rfl rfl (t' := 64) (kb BK519.out) (by rfl) (by kernel_rfl) (by rfl) ?_) | ((with_reducible refine gate_store (t := 30) (p := 2) rfl ?_); refine store_rowev_9 gb499 (.bool false) (.int .u64 0) (.int .u64 0) (.bool false) (.int .u64 0) (.int .u64 0) (.int .i64 0) (.int .i64 0) (.string (⟨#[]⟩ : ByteArray)) ?hg (t := 30) (p := 2) (v := _) rfl ?hn ?hc2 ?hc3 (t' := 30) (cs := #[.bool false, .int .u64 0, .int .u64 0, .bool false, .int .u64 0, .int .u64 0, .int .i64 0, .int .i64 0, .string (⟨#[]⟩ : ByteArray)]) ?hc4 ?hc5 ?hc6 ?hc7 ?_; (case hg => rfl); (case hn => rfl); (case hc2 => rfl); (case hc3 => rfl); (case hc4 => exact (by refine kb ?_; (iterate 15 (refine blk_far ?_ NB499_519.out _; refine kb ?_)); exact BK499.out)); (case hc5 => rfl); (case hc6 => kernel_rfl); (case hc7 => rfl)))
  refine bodyPost_ret (results_ct rfl _ _ gb499 30 #[.bool false, .int .u64 0, .int .u64 0, .bool false, .int .u64 0, .int .u64 0, .int .i64 0, .int .i64 0, .string (⟨#[]⟩ : ByteArray)] (0, 0) _ rfl (by refine kb ?_; refine blk_all_9 (cs := #[.bool false, .int .u64 0, .int .u64 0, .bool false, .int .u64 0, .int .u64 0, .int .i64 0, .int .i64 0, .string (⟨#[]⟩ : ByteArray)]) ?_ rfl; refine kb ?_; (iterate 15 (refine blk_far ?_ NB499_519.out _; refine kb ?_)); exact BK499.out) Tryd.underlying30 rfl (by kernel_rfl)) rfl ?_
  exact ⟨kE, by exact kB3 HB.out GE499.out GE500.out GE519.out⟩
 rw [if_neg c6] at H
 have c6b0 : (((Int.tdiv (bt a0 0) 16) % 256) == 4) = false := beq_eq_false_iff_ne.mpr c6
 have c6b1 : (((Int.tdiv (bt a0 0) 16) % 256) != 4) = true := bne_iff_ne.mpr c6
 replace H := bS H
 obtain ⟨⟨t532, t533, t534, t535, t536, t537, t538, t539, t540, t541, t542, t545, t546, t547, t548, t549, t550⟩, A50, H⟩ := H
 try dsimp -simprocs only at H
 by_cases c51 : t550 = 0
 ·rw [if_pos c51] at H
  have c51b0 : (t550 == 0) = true := beq_iff_eq.mpr c51
  have c51b1 : (t550 != 0) = false := bne_eq_false_iff_eq.mpr c51
  clear c51
  replace H := bS H
  obtain ⟨⟨t552, t553, t554, t555, t556, t557, t558, t559, t560, t561, t562, t563⟩, A52, H⟩ := H
  try dsimp -simprocs only at H
  by_cases c53 : t561 = 0
  ·rw [if_pos c53] at H
   have c53b0 : (t561 == 0) = true := beq_iff_eq.mpr c53
   have c53b1 : (t561 != 0) = false := bne_eq_false_iff_eq.mpr c53
   clear c53
   simp only [Option.some.injEq, Prod.mk.injEq] at H
   obtain ⟨rfl, rfl, rfl, rfl, rfl, rfl, rfl, rfl, rfl, rfl⟩ := H
   go_enter Tryd.func16, Tryd.ntmps16
   try go_wp2_with (first | ((with_reducible refine gate_dst (N := 2) rfl ?_); refine box_event rfl (N := 2) rfl (cs := #[.bool false, .int .u64 0, .int .u64 0, .bool false, .int .u64 0, .int .u64 0, .int .i64 0, .int .i64 0, .string (⟨#[]⟩ : ByteArray)]) (t := 30) kG ?_; intro gb499 hg w54 hbox hb; have BK499 := As (hbox); have GW499 := As (gS hg (below_size (kB HB.out))); have GE499 := As (gS hg (below_size (kB HB.out))); replace HB := As (below_step (kB HB.out) hb); clear hb hbox hg) | ((with_reducible refine gate_dst (N := 4) rfl ?_); refine box_event rfl (N := 4) rfl (cs := #[.bool false, .int .u64 0, .int .u64 0, .bool false, .int .u64 0, .int .u64 0, .int .i64 0, .int .i64 0, .int .i64 0, .int .i64 0, .bool false, .string (⟨#[]⟩ : ByteArray)]) (t := 66) kG ?_; intro gb500 hg w55 hbox hb; have BK500 := As (hbox); have GW500 := As (gS hg (below_size (kB1 HB.out GE499.out))); have GE500 := As (gS hg (below_size (kB1 HB.out GE499.out))); replace HB := As (below_step (kB1 HB.out GE499.out) hb); have NB499_500 := As (gN hg (blk_lt (kb BK499.out))); have NB500_499 := As (gM hg (blk_lt (kb BK499.out))); replace BK499 := As (blk_below (kb BK499.out) hb); clear hb hbox hg) | ((with_reducible refine gate_store (t := 66) (p := 4) rfl ?_); refine store_rowev_12 gb500 (.bool false) (.int .u64 0) (.int .u64 0) (.bool false) (.int .u64 0) (.int .u64 0) (.int .i64 0) (.int .i64 0) (.int .i64 0) (.int .i64 0) (.bool false) (.string (⟨#[]⟩ : ByteArray)) rfl (t := 66) (p := 4) (v := _) rfl rfl rfl rfl (t' := 66) (kb BK500.out) (by rfl) (by kernel_rfl) (by rfl) ?_; have p5 : 0 ≤ (0 : Int) := (by omega); have q5 : 0 < a0.size := (by have : (0 : Int) < (a0.size : Int) := of_decide_eq_true (by first | (with_reducible assumption) | assumption); omega); have hx5 : ∀ h : 0 < a0.size, ((a0[0]'h).toNat : Int) = bt a0 0 := bt_at a0 0; clear p5; have qi5 : (0 < (a0.size : Int)) = True := eq_true (of_decide_eq_true (by first | (with_reducible assumption) | assumption)); replace q5 := eq_true q5) | ((with_reducible refine gate_callee (f := 41) rfl ?_); refine goesL_ (some 29) rfl rfl Tryd.func41 (by kernel_rfl) rfl #[.string a0] rfl kA ?_; (with_reducible refine (ipv6_Decode.calls k a0 t532 t533 t534 t535 t536 t537 t538 t539 t540 t541 t542 t545 t546 t547 t548 t549 t550 _ A50.out).mono ?_); rintro e w56 ⟨v543, rfl, ho0, hb⟩; refine ⟨_, rfl, ?_⟩; have HO544 := As (Kd.R_lower ho0 (below_size (kB2 HB.out GE499.out GE500.out))); replace BK499 := As (blk_below (g := gb499) (o := .cells #[.bool false, .int .u64 0, .int .u64 0, .bool false, .int .u64 0, .int .u64 0, .int .i64 0, .int .i64 0, .string (⟨#[]⟩ : ByteArray)] 30 (0, 0)) (by refine kb ?_; (iterate 12 (refine blk_far ?_ NB499_500.out _; refine kb ?_)); exact BK499.out) hb); replace BK500 := As (blk_below (g := gb500) (o := .cells #[.bool false, .int .u64 0, .int .u64 0, .bool false, .int .u64 0, .int .u64 0, .int .i64 0, .int .i64 0, .int .i64 0, .int .i64 0, .bool false, .string (⟨#[]⟩ : ByteArray)] 66 (0, 0)) (by refine kb ?_; exact blk_all_12 (kb BK500.out) (by rfl)) hb); replace HB := As (below_step (kB2 HB.out GE499.out GE500.out) hb); (try clear hb); (try clear ho0)) | ((with_reducible refine gate_dst (N := 7) rfl ?_); refine box_event rfl (N := 7) rfl (cs := #[.int .i64 0, .int .i64 0, .int .i64 0, .int .i64 0, .bool false, .int .u64 0, .int .u64 0, .bool false, .int .u64 0, .int .u64 0, .slice none 0 0, .bool false, .int .i64 0, .int .i64 0, .bool false, .string (⟨#[]⟩ : ByteArray)]) (t := 60) kG ?_; intro gb551 hg w57 hbox hb; replace HO544 := As (Kd.R_below (kR HO544.out) hb); have BK551 := As (hbox); have GW551 := As (gS hg (below_size (kB2 HB.out GE499.out GE500.out))); have GE551 := As (gS hg (below_size (kB2 HB.out GE499.out GE500.out))); replace HB := As (below_step (kB2 HB.out GE499.out GE500.out) hb); have NB499_551 := As (gN hg (blk_lt (kb BK499.out))); have NB551_499 := As (gM hg (blk_lt (kb BK499.out))); replace BK499 := As (blk_below (kb BK499.out) hb); have NB500_551 := As (gN hg (blk_lt (kb BK500.out))); have NB551_500 := As (gM hg (blk_lt (kb BK500.out))); replace BK500 := As (blk_below (kb BK500.out) hb); clear hb hbox hg; obtain ⟨Ao58, co58, eo58⟩ := Kd.R_slice HO544.out; subst eo58) | ((with_reducible refine gate_store (t := 60) (p := 7) rfl ?_); refine store_rowev_16 gb551 (.int .i64 t532) (.int .i64 t533) (.int .i64 t534) (.int .i64 t535) (.bool t536) (.int .u64 t537) (.int .u64 t538) (.bool t539) (.int .u64 t540) (.int .u64 t541) (.slice Ao58 t542.length co58) (.bool t545) (.int .i64 t546) (.int .i64 t547) (.bool t548) (.string t549) rfl (t := 60) (p := 7) (v := _) rfl rfl rfl rfl (t' := 60) (kb BK551.out) (by rfl) (by kernel_rfl) (by rfl) ?_) | ((with_reducible refine gate_dst (N := 35) rfl ?_); (try (refine gate_guard (by rfl) ?_; dsimp only)); refine wpList_load_row ?hgd 60 _ rfl gb551 rfl 60 #[.int .i64 t532, .int .i64 t533, .int .i64 t534, .int .i64 t535, .bool t536, .int .u64 t537, .int .u64 t538, .bool t539, .int .u64 t540, .int .u64 t541, .slice Ao58 t542.length co58, .bool t545, .int .i64 t546, .int .i64 t547, .bool t548, .string t549] (0, 0) _ (by refine kb ?_; exact blk_all_16 (kb BK551.out) (by rfl)) Tryd.underlying60 rfl (by kernel_rfl) ?_; (case hgd => rfl)) | ((with_reducible refine gate_callee (f := 42) rfl ?_); refine goesL_ (some 36) rfl rfl Tryd.func42 (by kernel_rfl) rfl #[.agg #[.int .i64 t532, .int .i64 t533, .int .i64 t534, .int .i64 t535, .bool t536, .int .u64 t537, .int .u64 t538, .bool t539, .int .u64 t540, .int .u64 t541, .slice Ao58 t542.length co58, .bool t545, .int .i64 t546, .int .i64 t547, .bool t548, .string t549]] rfl kA ?_; (with_reducible refine (ipv6_Fragment.calls t532 t533 t534 t535 t536 t537 t538 t539 t540 t541 _ _ t542 t545 t546 t547 t548 t549 t552 t553 t554 t555 t556 t557 t558 t559 t560 t561 t562 t563 _ ?side1 ?side2 A52.out).mono ?_); (case side1 => refine (Kd.R_reads' (e := 91) (base := w.heap.size) (ok := fun k_ => True) (n := t542.length) (c := co58) ?_).2.2; exact (by refine kR ?_; exact (Kd.R_mono (Kd.R_puts_0_16 gb551 (.int .i64 t532) (.int .i64 t533) (.int .i64 t534) (.int .i64 t535) (.bool t536) (.int .u64 t537) (.int .u64 t538) (.bool t539) (.int .u64 t540) (.int .u64 t541) (.slice Ao58 t542.length co58) (.bool t545) (.int .i64 t546) (.int .i64 t547) (.bool t548) (.string t549) (Kd.R_types HO544.out BK551.out (by decide)) (fun _ hk => hk.2)) (fun _ h_ => h_.1)))); (case side2 => exact (Kd.R_reads' HO544.out).2.1); rintro e w59 ⟨rfl, hb⟩; refine ⟨_, rfl, ?_⟩; replace HO544 := As (Kd.R_below (by refine kR ?_; exact (Kd.R_mono (Kd.R_puts_0_16 gb551 (.int .i64 t532) (.int .i64 t533) (.int .i64 t534) (.int .i64 t535) (.bool t536) (.int .u64 t537) (.int .u64 t538) (.bool t539) (.int .u64 t540) (.int .u64 t541) (.slice Ao58 t542.length co58) (.bool t545) (.int .i64 t546) (.int .i64 t547) (.bool t548) (.string t549) (Kd.R_types HO544.out BK551.out (by decide)) (fun _ hk => hk.2)) (fun _ h_ => h_.1))) hb); replace BK499 := As (blk_below (g := gb499) (o := .cells #[.bool false, .int .u64 0, .int .u64 0, .bool false, .int .u64 0, .int .u64 0, .int .i64 0, .int .i64 0, .string (⟨#[]⟩ : ByteArray)] 30 (0, 0)) (by refine kb ?_; (iterate 16 (refine blk_far ?_ NB499_551.out _; refine kb ?_)); exact BK499.out) hb); replace BK500 := As (blk_below (g := gb500) (o := .cells #[.bool false, .int .u64 0, .int .u64 0, .bool false, .int .u64 0, .int .u64 0, .int .i64 0, .int .i64 0, .int .i64 0, .int .i64 0, .bool false, .string (⟨#[]⟩ : ByteArray)] 66 (0, 0)) (by refine kb ?_; (iterate 16 (refine blk_far ?_ NB500_551.out _; refine kb ?_)); exact BK500.out) hb); replace BK551 := As (blk_below (g := gb551) (o := .cells #[.int .i64 t532, .int .i64 t533, .int .i64 t534, .int .i64 t535, .bool t536, .int .u64 t537, .int .u64 t538, .bool t539, .int .u64 t540, .int .u64 t541, .slice Ao58 t542.length co58, .bool t545, .int .i64 t546, .int .i64 t547, .bool t548, .string t549] 60 (0, 0)) (by refine kb ?_; exact blk_all_16 (kb BK551.out) (by rfl)) hb); replace HB := As (below_step (kB3 HB.out GE499.out GE500.out GE551.out) hb); (try clear hb); (try clear hk)) | ((with_reducible refine gate_store (t := 66) (p := 4) rfl ?_); refine store_rowev_12 gb500 (.bool t552) (.int .u64 t553) (.int .u64 t554) (.bool t555) (.int .u64 t556) (.int .u64 t557) (.int .i64 t558) (.int .i64 t559) (.int .i64 t560) (.int .i64 t561) (.bool t562) (.string t563) rfl (t := 66) (p := 4) (v := _) rfl rfl rfl rfl (t' := 66) (kb BK500.out) (by rfl) (by kernel_rfl) (by rfl) ?_))
   have n0_ : Aside0 (Kd.R k91 91 ((((((((((((w59.setCell ⟨gb500, 0, none⟩ (.bool t552)).setCell ⟨gb500, 1, none⟩ (.int .u64 t553)).setCell ⟨gb500, 2, none⟩ (.int .u64 t554)).setCell ⟨gb500, 3, none⟩ (.bool t555)).setCell ⟨gb500, 4, none⟩ (.int .u64 t556)).setCell ⟨gb500, 5, none⟩ (.int .u64 t557)).setCell ⟨gb500, 6, none⟩ (.int .i64 t558)).setCell ⟨gb500, 7, none⟩ (.int .i64 t559)).setCell ⟨gb500, 8, none⟩ (.int .i64 t560)).setCell ⟨gb500, 9, none⟩ (.int .i64 t561)).setCell ⟨gb500, 10, none⟩ (.bool t562)).setCell ⟨gb500, 11, none⟩ (.string t563)) w.heap.size (fun _ => True) (.slice Ao58 t542.length co58) t542) := ⟨by (with_reducible repeat (first | apply Kd.R_alloc | apply Kd.R_drewN | apply Kd.R_drew)); exact Kd.R_mono (Kd.R_puts_0_12 gb500 (.bool t552) (.int .u64 t553) (.int .u64 t554) (.bool t555) (.int .u64 t556) (.int .u64 t557) (.int .i64 t558) (.int .i64 t559) (.int .i64 t560) (.int .i64 t561) (.bool t562) (.string t563) (Kd.R_types HO544.out BK500.out (by decide)) (fun _ hk => hk.2)) (fun _ hk => trivial)⟩
   have n1_ : Aside0 (((((((((((((w59.setCell ⟨gb500, 0, none⟩ (.bool t552)).setCell ⟨gb500, 1, none⟩ (.int .u64 t553)).setCell ⟨gb500, 2, none⟩ (.int .u64 t554)).setCell ⟨gb500, 3, none⟩ (.bool t555)).setCell ⟨gb500, 4, none⟩ (.int .u64 t556)).setCell ⟨gb500, 5, none⟩ (.int .u64 t557)).setCell ⟨gb500, 6, none⟩ (.int .i64 t558)).setCell ⟨gb500, 7, none⟩ (.int .i64 t559)).setCell ⟨gb500, 8, none⟩ (.int .i64 t560)).setCell ⟨gb500, 9, none⟩ (.int .i64 t561)).setCell ⟨gb500, 10, none⟩ (.bool t562)).setCell ⟨gb500, 11, none⟩ (.string t563)).heap[gb499]? = some (.cells #[.bool false, .int .u64 0, .int .u64 0, .bool false, .int .u64 0, .int .u64 0, .int .i64 0, .int .i64 0, .string (⟨#[]⟩ : ByteArray)] 30 (0, 0))) := ⟨by refine kb ?_; (iterate 12 (refine blk_far ?_ NB499_500.out _; refine kb ?_)); exact BK499.out⟩
   have n2_ : Aside0 (((((((((((((w59.setCell ⟨gb500, 0, none⟩ (.bool t552)).setCell ⟨gb500, 1, none⟩ (.int .u64 t553)).setCell ⟨gb500, 2, none⟩ (.int .u64 t554)).setCell ⟨gb500, 3, none⟩ (.bool t555)).setCell ⟨gb500, 4, none⟩ (.int .u64 t556)).setCell ⟨gb500, 5, none⟩ (.int .u64 t557)).setCell ⟨gb500, 6, none⟩ (.int .i64 t558)).setCell ⟨gb500, 7, none⟩ (.int .i64 t559)).setCell ⟨gb500, 8, none⟩ (.int .i64 t560)).setCell ⟨gb500, 9, none⟩ (.int .i64 t561)).setCell ⟨gb500, 10, none⟩ (.bool t562)).setCell ⟨gb500, 11, none⟩ (.string t563)).heap[gb500]? = some (.cells #[.bool t552, .int .u64 t553, .int .u64 t554, .bool t555, .int .u64 t556, .int .u64 t557, .int .i64 t558, .int .i64 t559, .int .i64 t560, .int .i64 t561, .bool t562, .string t563] 66 (0, 0))) := ⟨by refine kb ?_; exact blk_all_12 (kb BK500.out) (by rfl)⟩
   have n3_ : Aside0 (((((((((((((w59.setCell ⟨gb500, 0, none⟩ (.bool t552)).setCell ⟨gb500, 1, none⟩ (.int .u64 t553)).setCell ⟨gb500, 2, none⟩ (.int .u64 t554)).setCell ⟨gb500, 3, none⟩ (.bool t555)).setCell ⟨gb500, 4, none⟩ (.int .u64 t556)).setCell ⟨gb500, 5, none⟩ (.int .u64 t557)).setCell ⟨gb500, 6, none⟩ (.int .i64 t558)).setCell ⟨gb500, 7, none⟩ (.int .i64 t559)).setCell ⟨gb500, 8, none⟩ (.int .i64 t560)).setCell ⟨gb500, 9, none⟩ (.int .i64 t561)).setCell ⟨gb500, 10, none⟩ (.bool t562)).setCell ⟨gb500, 11, none⟩ (.string t563)).heap[gb551]? = some (.cells #[.int .i64 t532, .int .i64 t533, .int .i64 t534, .int .i64 t535, .bool t536, .int .u64 t537, .int .u64 t538, .bool t539, .int .u64 t540, .int .u64 t541, .slice Ao58 t542.length co58, .bool t545, .int .i64 t546, .int .i64 t547, .bool t548, .string t549] 60 (0, 0))) := ⟨by refine kb ?_; (iterate 12 (refine blk_far ?_ NB551_500.out _; refine kb ?_)); exact BK551.out⟩
   have n4_ : Aside0 (Below w.heap.size w ((((((((((((w59.setCell ⟨gb500, 0, none⟩ (.bool t552)).setCell ⟨gb500, 1, none⟩ (.int .u64 t553)).setCell ⟨gb500, 2, none⟩ (.int .u64 t554)).setCell ⟨gb500, 3, none⟩ (.bool t555)).setCell ⟨gb500, 4, none⟩ (.int .u64 t556)).setCell ⟨gb500, 5, none⟩ (.int .u64 t557)).setCell ⟨gb500, 6, none⟩ (.int .i64 t558)).setCell ⟨gb500, 7, none⟩ (.int .i64 t559)).setCell ⟨gb500, 8, none⟩ (.int .i64 t560)).setCell ⟨gb500, 9, none⟩ (.int .i64 t561)).setCell ⟨gb500, 10, none⟩ (.bool t562)).setCell ⟨gb500, 11, none⟩ (.string t563))) := ⟨kB3 HB.out GE499.out GE500.out GE551.out⟩
   (try clear HO544)
   (try clear BK499)
   (try clear BK500)
   (try clear BK551)
   (try clear HB)
   generalize ((((((((((((w59.setCell ⟨gb500, 0, none⟩ (.bool t552)).setCell ⟨gb500, 1, none⟩ (.int .u64 t553)).setCell ⟨gb500, 2, none⟩ (.int .u64 t554)).setCell ⟨gb500, 3, none⟩ (.bool t555)).setCell ⟨gb500, 4, none⟩ (.int .u64 t556)).setCell ⟨gb500, 5, none⟩ (.int .u64 t557)).setCell ⟨gb500, 6, none⟩ (.int .i64 t558)).setCell ⟨gb500, 7, none⟩ (.int .i64 t559)).setCell ⟨gb500, 8, none⟩ (.int .i64 t560)).setCell ⟨gb500, 9, none⟩ (.int .i64 t561)).setCell ⟨gb500, 10, none⟩ (.bool t562)).setCell ⟨gb500, 11, none⟩ (.string t563)) = w60 at n0_ n1_ n2_ n3_ n4_ ⊢
   have HO544 := n0_
   have BK499 := n1_
   have BK500 := n2_
   have BK551 := n3_
   have HB := n4_
   clear n0_ n1_ n2_ n3_ n4_
   replace HO544 := As (Kd.R_drew HO544.out)
   replace BK499 := As (blk_drew BK499.out)
   replace BK500 := As (blk_drew BK500.out)
   replace BK551 := As (blk_drew BK551.out)
   replace HB := As (below_drew1 HB.out)
   refine start_ (n := 21) (S := fun w' => w'.cell? ⟨gb500, 0, none⟩ = some (.bool t552) ∧ w'.cell? ⟨gb500, 1, none⟩ = some (.int .u64 t553) ∧ w'.cell? ⟨gb500, 2, none⟩ = some (.int .u64 t554) ∧ w'.cell? ⟨gb500, 3, none⟩ = some (.bool t555) ∧ w'.cell? ⟨gb500, 4, none⟩ = some (.int .u64 t556) ∧ w'.cell? ⟨gb500, 5, none⟩ = some (.int .u64 t557) ∧ w'.cell? ⟨gb500, 6, none⟩ = some (.int .i64 t558) ∧ w'.cell? ⟨gb500, 7, none⟩ = some (.int .i64 t559) ∧ w'.cell? ⟨gb500, 8, none⟩ = some (.int .i64 t560) ∧ w'.cell? ⟨gb500, 9, none⟩ = some (.int .i64 t561) ∧ w'.cell? ⟨gb500, 10, none⟩ = some (.bool t562) ∧ w'.cell? ⟨gb500, 11, none⟩ = some (.string t563)) (ds := []) #[O, O, O, O, O, O, O, O, O, O, O, O, O, O, O, O, O, O, O, O, O] (by kernel_rfl) rfl rfl ⟨kC BK500.out 0, kC BK500.out 1, kC BK500.out 2, kC BK500.out 3, kC BK500.out 4, kC BK500.out 5, kC BK500.out 6, kC BK500.out 7, kC BK500.out 8, kC BK500.out 9, kC BK500.out 10, kC BK500.out 11⟩ (fun hHeld => ?_); refine with_tabW intrusionlaw17_taken.tab13 intrusionlaw17_taken.bits13 (fun HT_ HW_ => ?_)
   generalize w60.drew = w61 at HO544 BK499 BK500 BK551 HB hHeld ⊢
   refine kP 0 37 #[I, O, O, O, O, O, O, O, O, O, O, O, O, O, O, O, O, O, O, O, O] ?_ (any_of HT_.out (by kernel_rfl))
   refine kP 2 39 #[I, O, I, O, O, O, O, O, O, O, O, O, O, O, O, O, O, O, O, O, O] ?_ (any_of HT_.out (by kernel_rfl))
   refine kP 4 41 #[I, O, I, O, I, O, O, O, O, O, O, O, O, O, O, O, O, O, O, O, O] ?_ (any_of HT_.out (by kernel_rfl))
   refine kP 6 43 #[I, O, I, O, I, O, I, O, O, O, O, O, O, O, O, O, O, O, O, O, O] ?_ (any_of HT_.out (by kernel_rfl))
   refine kP 8 45 #[I, O, I, O, I, O, I, O, I, O, O, O, O, O, O, O, O, O, O, O, O] ?_ (any_of HT_.out (by kernel_rfl))
   refine kP 11 48 #[I, O, I, O, I, O, I, O, I, O, O, I, O, O, O, O, O, O, O, O, O] ?_ (any_of HT_.out (by kernel_rfl))
   refine take_ (i := 1) (N := some 38) (v := ?_) (a' := ?_) #[I, I, I, O, I, O, I, O, I, O, O, I, O, O, O, O, O, O, O, O, O] rfl rfl (take_ofW HT_.out HW_.out (by kernel_rfl)) (fun _ _ _ h => h) (Or.inl ⟨by rfl, ?_⟩) hHeld ?_ ?_
   rotate_left
   ·rintro w' ⟨s0, s1, s2, s3, s4, s5, s6, s7, s8, s9, s10, s11⟩
    go_simp
    with_reducible rfl
   rotate_left
   ·simp only [Act.put, sA, sZ, sS, i64_w, i32_w]
    rfl
   refine take_ (i := 3) (N := some 40) (v := ?_) (a' := ?_) #[I, I, I, I, I, O, I, O, I, O, O, I, O, O, O, O, O, O, O, O, O] rfl rfl (take_ofW HT_.out HW_.out (by kernel_rfl)) (fun _ _ _ h => h) (Or.inl ⟨by rfl, ?_⟩) hHeld ?_ ?_
   rotate_left
   ·rintro w' ⟨s0, s1, s2, s3, s4, s5, s6, s7, s8, s9, s10, s11⟩
    go_simp
    with_reducible rfl
   rotate_left
   ·simp only [Act.put, sA, sZ, sS, i64_w, i32_w]
    rfl
   refine take_ (i := 5) (N := some 42) (v := ?_) (a' := ?_) #[I, I, I, I, I, I, I, O, I, O, O, I, O, O, O, O, O, O, O, O, O] rfl rfl (take_ofW HT_.out HW_.out (by kernel_rfl)) (fun _ _ _ h => h) (Or.inl ⟨by rfl, ?_⟩) hHeld ?_ ?_
   rotate_left
   ·rintro w' ⟨s0, s1, s2, s3, s4, s5, s6, s7, s8, s9, s10, s11⟩
    go_simp
    with_reducible rfl
   rotate_left
   ·simp only [Act.put, sA, sZ, sS, i64_w, i32_w]
    rfl
   refine take_ (i := 7) (N := some 44) (v := ?_) (a' := ?_) #[I, I, I, I, I, I, I, I, I, O, O, I, O, O, O, O, O, O, O, O, O] rfl rfl (take_ofW HT_.out HW_.out (by kernel_rfl)) (fun _ _ _ h => h) (Or.inl ⟨by rfl, ?_⟩) hHeld ?_ ?_
   rotate_left
   ·rintro w' ⟨s0, s1, s2, s3, s4, s5, s6, s7, s8, s9, s10, s11⟩
    go_simp
    with_reducible rfl
   rotate_left
   ·simp only [Act.put, sA, sZ, sS, i64_w, i32_w]
    rfl
   refine take_ (i := 9) (N := some 46) (v := ?_) (a' := ?_) #[I, I, I, I, I, I, I, I, I, I, O, I, O, O, O, O, O, O, O, O, O] rfl rfl (take_ofW HT_.out HW_.out (by kernel_rfl)) (fun _ _ _ h => h) (Or.inl ⟨by rfl, ?_⟩) hHeld ?_ ?_
   rotate_left
   ·rintro w' ⟨s0, s1, s2, s3, s4, s5, s6, s7, s8, s9, s10, s11⟩
    go_simp
    with_reducible rfl
   rotate_left
   ·simp only [Act.put, sA, sZ, sS, i64_w, i32_w]
    rfl
   refine kP 10 47 #[I, I, I, I, I, I, I, I, I, I, I, I, O, O, O, O, O, O, O, O, O] ?_ (any_of HT_.out (by kernel_rfl))
   refine take_ (i := 12) (N := some 49) (v := ?_) (a' := ?_) #[I, I, I, I, I, I, I, I, I, I, I, I, I, O, O, O, O, O, O, O, O] rfl rfl (take_ofW HT_.out HW_.out (by kernel_rfl)) (fun _ _ _ h => h) (Or.inl ⟨by rfl, ?_⟩) hHeld ?_ ?_
   rotate_left
   ·rintro w' ⟨s0, s1, s2, s3, s4, s5, s6, s7, s8, s9, s10, s11⟩
    go_simp
    with_reducible rfl
   rotate_left
   ·simp only [Act.put, sA, sZ, sS, i64_w, i32_w]
    rfl
   refine kP 13 50 #[I, I, I, I, I, I, I, I, I, I, I, I, I, I, O, O, O, O, O, O, O] ?_ (any_of HT_.out (by kernel_rfl))
   refine kP 14 51 #[I, I, I, I, I, I, I, I, I, I, I, I, I, I, I, O, O, O, O, O, O] ?_ (any_of HT_.out (by kernel_rfl))
   refine kP 15 52 #[I, I, I, I, I, I, I, I, I, I, I, I, I, I, I, I, O, O, O, O, O] ?_ (any_of HT_.out (by kernel_rfl))
   refine take_ (i := 16) (N := some 53) (v := ?_) (a' := ?_) #[I, I, I, I, I, I, I, I, I, I, I, I, I, I, I, I, I, O, O, O, O] rfl rfl (take_ofW HT_.out HW_.out (by kernel_rfl)) (fun _ _ _ h => h) (Or.inl ⟨by rfl, ?_⟩) hHeld ?_ ?_
   rotate_left
   ·rintro w' ⟨s0, s1, s2, s3, s4, s5, s6, s7, s8, s9, s10, s11⟩
    go_simp
    with_reducible rfl
   rotate_left
   ·simp only [Act.put, sA, sZ, sS, i64_w, i32_w]
    rfl
   refine kP 17 54 #[I, I, I, I, I, I, I, I, I, I, I, I, I, I, I, I, I, I, O, O, O] ?_ (any_of HT_.out (by kernel_rfl))
   refine kP 18 55 #[I, I, I, I, I, I, I, I, I, I, I, I, I, I, I, I, I, I, I, O, O] ?_ (any_of HT_.out (by kernel_rfl))
   refine one_ (i := 19) (N := none) #[I, I, I, I, I, I, I, I, I, I, I, I, I, I, I, I, I, I, I, I, O] rfl rfl (one_of HT_.out (by kernel_rfl)) (by decide) (fun K hK => ?_)
   have hs62 : w61.cell? ⟨gb499, 0, none⟩ = some (.bool false) := (blk_cell BK499.out 0).trans rfl
   have hfs62 := blk_frozen BK499.out 0
   have hns62_1 := NB500_499.out
   have hns62_2 := NB551_499.out
   have hms62_1 := NB499_500.out
   have hms62_2 := NB499_551.out
   have hs63 : w61.cell? ⟨gb499, 1, none⟩ = some (.int .u64 0) := (blk_cell BK499.out 1).trans rfl
   have hfs63 := blk_frozen BK499.out 1
   have hns63_1 := NB500_499.out
   have hns63_2 := NB551_499.out
   have hms63_1 := NB499_500.out
   have hms63_2 := NB499_551.out
   have hs64 : w61.cell? ⟨gb499, 2, none⟩ = some (.int .u64 0) := (blk_cell BK499.out 2).trans rfl
   have hfs64 := blk_frozen BK499.out 2
   have hns64_1 := NB500_499.out
   have hns64_2 := NB551_499.out
   have hms64_1 := NB499_500.out
   have hms64_2 := NB499_551.out
   have hs65 : w61.cell? ⟨gb499, 3, none⟩ = some (.bool false) := (blk_cell BK499.out 3).trans rfl
   have hfs65 := blk_frozen BK499.out 3
   have hns65_1 := NB500_499.out
   have hns65_2 := NB551_499.out
   have hms65_1 := NB499_500.out
   have hms65_2 := NB499_551.out
   have hs66 : w61.cell? ⟨gb499, 4, none⟩ = some (.int .u64 0) := (blk_cell BK499.out 4).trans rfl
   have hfs66 := blk_frozen BK499.out 4
   have hns66_1 := NB500_499.out
   have hns66_2 := NB551_499.out
   have hms66_1 := NB499_500.out
   have hms66_2 := NB499_551.out
   have hs67 : w61.cell? ⟨gb499, 5, none⟩ = some (.int .u64 0) := (blk_cell BK499.out 5).trans rfl
   have hfs67 := blk_frozen BK499.out 5
   have hns67_1 := NB500_499.out
   have hns67_2 := NB551_499.out
   have hms67_1 := NB499_500.out
   have hms67_2 := NB499_551.out
   have hs68 : w61.cell? ⟨gb499, 6, none⟩ = some (.int .i64 0) := (blk_cell BK499.out 6).trans rfl
   have hfs68 := blk_frozen BK499.out 6
   have hns68_1 := NB500_499.out
   have hns68_2 := NB551_499.out
   have hms68_1 := NB499_500.out
   have hms68_2 := NB499_551.out
   have hs69 : w61.cell? ⟨gb499, 7, none⟩ = some (.int .i64 0) := (blk_cell BK499.out 7).trans rfl
   have hfs69 := blk_frozen BK499.out 7
   have hns69_1 := NB500_499.out
   have hns69_2 := NB551_499.out
   have hms69_1 := NB499_500.out
   have hms69_2 := NB499_551.out
   have hs70 : w61.cell? ⟨gb499, 8, none⟩ = some (.string (⟨#[]⟩ : ByteArray)) := (blk_cell BK499.out 8).trans rfl
   have hfs70 := blk_frozen BK499.out 8
   have hns70_1 := NB500_499.out
   have hns70_2 := NB551_499.out
   have hms70_1 := NB499_500.out
   have hms70_2 := NB499_551.out
   refine skip_ (w1 := ?_) (by rfl) rfl ?_ ?_
   rotate_left
   ·go_simp
    rfl
   refine hK.out _ _ ⟨((cell_far (p := ⟨gb499, _, none⟩) NB500_499.out _).trans (((cell_far (p := ⟨gb499, _, none⟩) NB500_499.out _).trans (((cell_far (p := ⟨gb499, _, none⟩) NB500_499.out _).trans (((cell_far (p := ⟨gb499, _, none⟩) NB500_499.out _).trans (((cell_far (p := ⟨gb499, _, none⟩) NB500_499.out _).trans (((cell_far (p := ⟨gb499, _, none⟩) NB500_499.out _).trans (((cell_far (p := ⟨gb499, _, none⟩) NB500_499.out _).trans (((cell_far (p := ⟨gb499, _, none⟩) NB500_499.out _).trans (kF NB500_499.out hHeld.1)))))))))))))))), ((cell_far (p := ⟨gb499, _, none⟩) NB500_499.out _).trans (((cell_far (p := ⟨gb499, _, none⟩) NB500_499.out _).trans (((cell_far (p := ⟨gb499, _, none⟩) NB500_499.out _).trans (((cell_far (p := ⟨gb499, _, none⟩) NB500_499.out _).trans (((cell_far (p := ⟨gb499, _, none⟩) NB500_499.out _).trans (((cell_far (p := ⟨gb499, _, none⟩) NB500_499.out _).trans (((cell_far (p := ⟨gb499, _, none⟩) NB500_499.out _).trans (((cell_far (p := ⟨gb499, _, none⟩) NB500_499.out _).trans (kF NB500_499.out hHeld.2.1)))))))))))))))), ((cell_far (p := ⟨gb499, _, none⟩) NB500_499.out _).trans (((cell_far (p := ⟨gb499, _, none⟩) NB500_499.out _).trans (((cell_far (p := ⟨gb499, _, none⟩) NB500_499.out _).trans (((cell_far (p := ⟨gb499, _, none⟩) NB500_499.out _).trans (((cell_far (p := ⟨gb499, _, none⟩) NB500_499.out _).trans (((cell_far (p := ⟨gb499, _, none⟩) NB500_499.out _).trans (((cell_far (p := ⟨gb499, _, none⟩) NB500_499.out _).trans (((cell_far (p := ⟨gb499, _, none⟩) NB500_499.out _).trans (kF NB500_499.out hHeld.2.2.1)))))))))))))))), ((cell_far (p := ⟨gb499, _, none⟩) NB500_499.out _).trans (((cell_far (p := ⟨gb499, _, none⟩) NB500_499.out _).trans (((cell_far (p := ⟨gb499, _, none⟩) NB500_499.out _).trans (((cell_far (p := ⟨gb499, _, none⟩) NB500_499.out _).trans (((cell_far (p := ⟨gb499, _, none⟩) NB500_499.out _).trans (((cell_far (p := ⟨gb499, _, none⟩) NB500_499.out _).trans (((cell_far (p := ⟨gb499, _, none⟩) NB500_499.out _).trans (((cell_far (p := ⟨gb499, _, none⟩) NB500_499.out _).trans (kF NB500_499.out hHeld.2.2.2.1)))))))))))))))), ((cell_far (p := ⟨gb499, _, none⟩) NB500_499.out _).trans (((cell_far (p := ⟨gb499, _, none⟩) NB500_499.out _).trans (((cell_far (p := ⟨gb499, _, none⟩) NB500_499.out _).trans (((cell_far (p := ⟨gb499, _, none⟩) NB500_499.out _).trans (((cell_far (p := ⟨gb499, _, none⟩) NB500_499.out _).trans (((cell_far (p := ⟨gb499, _, none⟩) NB500_499.out _).trans (((cell_far (p := ⟨gb499, _, none⟩) NB500_499.out _).trans (((cell_far (p := ⟨gb499, _, none⟩) NB500_499.out _).trans (kF NB500_499.out hHeld.2.2.2.2.1)))))))))))))))), ((cell_far (p := ⟨gb499, _, none⟩) NB500_499.out _).trans (((cell_far (p := ⟨gb499, _, none⟩) NB500_499.out _).trans (((cell_far (p := ⟨gb499, _, none⟩) NB500_499.out _).trans (((cell_far (p := ⟨gb499, _, none⟩) NB500_499.out _).trans (((cell_far (p := ⟨gb499, _, none⟩) NB500_499.out _).trans (((cell_far (p := ⟨gb499, _, none⟩) NB500_499.out _).trans (((cell_far (p := ⟨gb499, _, none⟩) NB500_499.out _).trans (((cell_far (p := ⟨gb499, _, none⟩) NB500_499.out _).trans (kF NB500_499.out hHeld.2.2.2.2.2.1)))))))))))))))), ((cell_far (p := ⟨gb499, _, none⟩) NB500_499.out _).trans (((cell_far (p := ⟨gb499, _, none⟩) NB500_499.out _).trans (((cell_far (p := ⟨gb499, _, none⟩) NB500_499.out _).trans (((cell_far (p := ⟨gb499, _, none⟩) NB500_499.out _).trans (((cell_far (p := ⟨gb499, _, none⟩) NB500_499.out _).trans (((cell_far (p := ⟨gb499, _, none⟩) NB500_499.out _).trans (((cell_far (p := ⟨gb499, _, none⟩) NB500_499.out _).trans (((cell_far (p := ⟨gb499, _, none⟩) NB500_499.out _).trans (kF NB500_499.out hHeld.2.2.2.2.2.2.1)))))))))))))))), ((cell_far (p := ⟨gb499, _, none⟩) NB500_499.out _).trans (((cell_far (p := ⟨gb499, _, none⟩) NB500_499.out _).trans (((cell_far (p := ⟨gb499, _, none⟩) NB500_499.out _).trans (((cell_far (p := ⟨gb499, _, none⟩) NB500_499.out _).trans (((cell_far (p := ⟨gb499, _, none⟩) NB500_499.out _).trans (((cell_far (p := ⟨gb499, _, none⟩) NB500_499.out _).trans (((cell_far (p := ⟨gb499, _, none⟩) NB500_499.out _).trans (((cell_far (p := ⟨gb499, _, none⟩) NB500_499.out _).trans (kF NB500_499.out hHeld.2.2.2.2.2.2.2.1)))))))))))))))), ((cell_far (p := ⟨gb499, _, none⟩) NB500_499.out _).trans (((cell_far (p := ⟨gb499, _, none⟩) NB500_499.out _).trans (((cell_far (p := ⟨gb499, _, none⟩) NB500_499.out _).trans (((cell_far (p := ⟨gb499, _, none⟩) NB500_499.out _).trans (((cell_far (p := ⟨gb499, _, none⟩) NB500_499.out _).trans (((cell_far (p := ⟨gb499, _, none⟩) NB500_499.out _).trans (((cell_far (p := ⟨gb499, _, none⟩) NB500_499.out _).trans (((cell_far (p := ⟨gb499, _, none⟩) NB500_499.out _).trans (kF NB500_499.out hHeld.2.2.2.2.2.2.2.2.1)))))))))))))))), ((cell_far (p := ⟨gb499, _, none⟩) NB500_499.out _).trans (((cell_far (p := ⟨gb499, _, none⟩) NB500_499.out _).trans (((cell_far (p := ⟨gb499, _, none⟩) NB500_499.out _).trans (((cell_far (p := ⟨gb499, _, none⟩) NB500_499.out _).trans (((cell_far (p := ⟨gb499, _, none⟩) NB500_499.out _).trans (((cell_far (p := ⟨gb499, _, none⟩) NB500_499.out _).trans (((cell_far (p := ⟨gb499, _, none⟩) NB500_499.out _).trans (((cell_far (p := ⟨gb499, _, none⟩) NB500_499.out _).trans (kF NB500_499.out hHeld.2.2.2.2.2.2.2.2.2.1)))))))))))))))), ((cell_far (p := ⟨gb499, _, none⟩) NB500_499.out _).trans (((cell_far (p := ⟨gb499, _, none⟩) NB500_499.out _).trans (((cell_far (p := ⟨gb499, _, none⟩) NB500_499.out _).trans (((cell_far (p := ⟨gb499, _, none⟩) NB500_499.out _).trans (((cell_far (p := ⟨gb499, _, none⟩) NB500_499.out _).trans (((cell_far (p := ⟨gb499, _, none⟩) NB500_499.out _).trans (((cell_far (p := ⟨gb499, _, none⟩) NB500_499.out _).trans (((cell_far (p := ⟨gb499, _, none⟩) NB500_499.out _).trans (kF NB500_499.out hHeld.2.2.2.2.2.2.2.2.2.2.1)))))))))))))))), ((cell_far (p := ⟨gb499, _, none⟩) NB500_499.out _).trans (((cell_far (p := ⟨gb499, _, none⟩) NB500_499.out _).trans (((cell_far (p := ⟨gb499, _, none⟩) NB500_499.out _).trans (((cell_far (p := ⟨gb499, _, none⟩) NB500_499.out _).trans (((cell_far (p := ⟨gb499, _, none⟩) NB500_499.out _).trans (((cell_far (p := ⟨gb499, _, none⟩) NB500_499.out _).trans (((cell_far (p := ⟨gb499, _, none⟩) NB500_499.out _).trans (((cell_far (p := ⟨gb499, _, none⟩) NB500_499.out _).trans (kF NB500_499.out hHeld.2.2.2.2.2.2.2.2.2.2.2))))))))))))))))⟩ (fun hHeld => ?_)
   clear hK K
   refine kP 20 3 #[I, I, I, I, I, I, I, I, I, I, I, I, I, I, I, I, I, I, I, I, I] ?_ (any_of HT_.out (by kernel_rfl))
   refine done_ (done_of HT_.out (by kernel_rfl)) ?_
   try go_wp2
   refine bodyPost_ret (results_ct rfl _ _ gb499 30 #[.bool t552, .int .u64 t553, .int .u64 t554, .bool t555, .int .u64 t556, .int .u64 t557, .int .i64 t558, .int .i64 t560, .string t563] (0, 0) _ rfl (by refine kb ?_; exact blk_all_9 (kb BK499.out) (by rfl)) Tryd.underlying30 rfl (by kernel_rfl)) rfl ?_
   exact ⟨kE, by exact kB3 HB.out GE499.out GE500.out GE551.out⟩
  rw [if_neg c53] at H
  have c53b0 : (t561 == 0) = false := beq_eq_false_iff_ne.mpr c53
  have c53b1 : (t561 != 0) = true := bne_iff_ne.mpr c53
  simp only [Option.some.injEq, Prod.mk.injEq] at H
  obtain ⟨rfl, rfl, rfl, rfl, rfl, rfl, rfl, rfl, rfl, rfl⟩ := H
  go_enter Tryd.func16, Tryd.ntmps16
  try go_wp2_with (first | ((with_reducible refine gate_dst (N := 2) rfl ?_); refine box_event rfl (N := 2) rfl (cs := #[.bool false, .int .u64 0, .int .u64 0, .bool false, .int .u64 0, .int .u64 0, .int .i64 0, .int .i64 0, .string (⟨#[]⟩ : ByteArray)]) (t := 30) kG ?_; intro gb499 hg w71 hbox hb; have BK499 := As (hbox); have GW499 := As (gS hg (below_size (kB HB.out))); have GE499 := As (gS hg (below_size (kB HB.out))); replace HB := As (below_step (kB HB.out) hb); clear hb hbox hg) | ((with_reducible refine gate_dst (N := 4) rfl ?_); refine box_event rfl (N := 4) rfl (cs := #[.bool false, .int .u64 0, .int .u64 0, .bool false, .int .u64 0, .int .u64 0, .int .i64 0, .int .i64 0, .int .i64 0, .int .i64 0, .bool false, .string (⟨#[]⟩ : ByteArray)]) (t := 66) kG ?_; intro gb500 hg w72 hbox hb; have BK500 := As (hbox); have GW500 := As (gS hg (below_size (kB1 HB.out GE499.out))); have GE500 := As (gS hg (below_size (kB1 HB.out GE499.out))); replace HB := As (below_step (kB1 HB.out GE499.out) hb); have NB499_500 := As (gN hg (blk_lt (kb BK499.out))); have NB500_499 := As (gM hg (blk_lt (kb BK499.out))); replace BK499 := As (blk_below (kb BK499.out) hb); clear hb hbox hg) | ((with_reducible refine gate_store (t := 66) (p := 4) rfl ?_); refine store_rowev_12 gb500 (.bool false) (.int .u64 0) (.int .u64 0) (.bool false) (.int .u64 0) (.int .u64 0) (.int .i64 0) (.int .i64 0) (.int .i64 0) (.int .i64 0) (.bool false) (.string (⟨#[]⟩ : ByteArray)) rfl (t := 66) (p := 4) (v := _) rfl rfl rfl rfl (t' := 66) (kb BK500.out) (by rfl) (by kernel_rfl) (by rfl) ?_; have p5 : 0 ≤ (0 : Int) := (by omega); have q5 : 0 < a0.size := (by have : (0 : Int) < (a0.size : Int) := of_decide_eq_true (by first | (with_reducible assumption) | assumption); omega); have hx5 : ∀ h : 0 < a0.size, ((a0[0]'h).toNat : Int) = bt a0 0 := bt_at a0 0; clear p5; have qi5 : (0 < (a0.size : Int)) = True := eq_true (of_decide_eq_true (by first | (with_reducible assumption) | assumption)); replace q5 := eq_true q5) | ((with_reducible refine gate_callee (f := 41) rfl ?_); refine goesL_ (some 29) rfl rfl Tryd.func41 (by kernel_rfl) rfl #[.string a0] rfl kA ?_; (with_reducible refine (ipv6_Decode.calls k a0 t532 t533 t534 t535 t536 t537 t538 t539 t540 t541 t542 t545 t546 t547 t548 t549 t550 _ A50.out).mono ?_); rintro e w73 ⟨v543, rfl, ho0, hb⟩; refine ⟨_, rfl, ?_⟩; have HO544 := As (Kd.R_lower ho0 (below_size (kB2 HB.out GE499.out GE500.out))); replace BK499 := As (blk_below (g := gb499) (o := .cells #[.bool false, .int .u64 0, .int .u64 0, .bool false, .int .u64 0, .int .u64 0, .int .i64 0, .int .i64 0, .string (⟨#[]⟩ : ByteArray)] 30 (0, 0)) (by refine kb ?_; (iterate 12 (refine blk_far ?_ NB499_500.out _; refine kb ?_)); exact BK499.out) hb); replace BK500 := As (blk_below (g := gb500) (o := .cells #[.bool false, .int .u64 0, .int .u64 0, .bool false, .int .u64 0, .int .u64 0, .int .i64 0, .int .i64 0, .int .i64 0, .int .i64 0, .bool false, .string (⟨#[]⟩ : ByteArray)] 66 (0, 0)) (by refine kb ?_; exact blk_all_12 (kb BK500.out) (by rfl)) hb); replace HB := As (below_step (kB2 HB.out GE499.out GE500.out) hb); (try clear hb); (try clear ho0)) | ((with_reducible refine gate_dst (N := 7) rfl ?_); refine box_event rfl (N := 7) rfl (cs := #[.int .i64 0, .int .i64 0, .int .i64 0, .int .i64 0, .bool false, .int .u64 0, .int .u64 0, .bool false, .int .u64 0, .int .u64 0, .slice none 0 0, .bool false, .int .i64 0, .int .i64 0, .bool false, .string (⟨#[]⟩ : ByteArray)]) (t := 60) kG ?_; intro gb551 hg w74 hbox hb; replace HO544 := As (Kd.R_below (kR HO544.out) hb); have BK551 := As (hbox); have GW551 := As (gS hg (below_size (kB2 HB.out GE499.out GE500.out))); have GE551 := As (gS hg (below_size (kB2 HB.out GE499.out GE500.out))); replace HB := As (below_step (kB2 HB.out GE499.out GE500.out) hb); have NB499_551 := As (gN hg (blk_lt (kb BK499.out))); have NB551_499 := As (gM hg (blk_lt (kb BK499.out))); replace BK499 := As (blk_below (kb BK499.out) hb); have NB500_551 := As (gN hg (blk_lt (kb BK500.out))); have NB551_500 := As (gM hg (blk_lt (kb BK500.out))); replace BK500 := As (blk_below (kb BK500.out) hb); clear hb hbox hg; obtain ⟨Ao75, co75, eo75⟩ := Kd.R_slice HO544.out; subst eo75) | ((with_reducible refine gate_store (t := 60) (p := 7) rfl ?_); refine store_rowev_16 gb551 (.int .i64 t532) (.int .i64 t533) (.int .i64 t534) (.int .i64 t535) (.bool t536) (.int .u64 t537) (.int .u64 t538) (.bool t539) (.int .u64 t540) (.int .u64 t541) (.slice Ao75 t542.length co75) (.bool t545) (.int .i64 t546) (.int .i64 t547) (.bool t548) (.string t549) rfl (t := 60) (p := 7) (v := _) rfl rfl rfl rfl (t' := 60) (kb BK551.out) (by rfl) (by kernel_rfl) (by rfl) ?_) | ((with_reducible refine gate_dst (N := 35) rfl ?_); (try (refine gate_guard (by rfl) ?_; dsimp only)); refine wpList_load_row ?hgd 60 _ rfl gb551 rfl 60 #[.int .i64 t532, .int .i64 t533, .int .i64 t534, .int .i64 t535, .bool t536, .int .u64 t537, .int .u64 t538, .bool t539, .int .u64 t540, .int .u64 t541, .slice Ao75 t542.length co75, .bool t545, .int .i64 t546, .int .i64 t547, .bool t548, .string t549] (0, 0) _ (by refine kb ?_; exact blk_all_16 (kb BK551.out) (by rfl)) Tryd.underlying60 rfl (by kernel_rfl) ?_; (case hgd => rfl)) | ((with_reducible refine gate_callee (f := 42) rfl ?_); refine goesL_ (some 36) rfl rfl Tryd.func42 (by kernel_rfl) rfl #[.agg #[.int .i64 t532, .int .i64 t533, .int .i64 t534, .int .i64 t535, .bool t536, .int .u64 t537, .int .u64 t538, .bool t539, .int .u64 t540, .int .u64 t541, .slice Ao75 t542.length co75, .bool t545, .int .i64 t546, .int .i64 t547, .bool t548, .string t549]] rfl kA ?_; (with_reducible refine (ipv6_Fragment.calls t532 t533 t534 t535 t536 t537 t538 t539 t540 t541 _ _ t542 t545 t546 t547 t548 t549 t552 t553 t554 t555 t556 t557 t558 t559 t560 t561 t562 t563 _ ?side1 ?side2 A52.out).mono ?_); (case side1 => refine (Kd.R_reads' (e := 91) (base := w.heap.size) (ok := fun k_ => True) (n := t542.length) (c := co75) ?_).2.2; exact (by refine kR ?_; exact (Kd.R_mono (Kd.R_puts_0_16 gb551 (.int .i64 t532) (.int .i64 t533) (.int .i64 t534) (.int .i64 t535) (.bool t536) (.int .u64 t537) (.int .u64 t538) (.bool t539) (.int .u64 t540) (.int .u64 t541) (.slice Ao75 t542.length co75) (.bool t545) (.int .i64 t546) (.int .i64 t547) (.bool t548) (.string t549) (Kd.R_types HO544.out BK551.out (by decide)) (fun _ hk => hk.2)) (fun _ h_ => h_.1)))); (case side2 => exact (Kd.R_reads' HO544.out).2.1); rintro e w76 ⟨rfl, hb⟩; refine ⟨_, rfl, ?_⟩; replace HO544 := As (Kd.R_below (by refine kR ?_; exact (Kd.R_mono (Kd.R_puts_0_16 gb551 (.int .i64 t532) (.int .i64 t533) (.int .i64 t534) (.int .i64 t535) (.bool t536) (.int .u64 t537) (.int .u64 t538) (.bool t539) (.int .u64 t540) (.int .u64 t541) (.slice Ao75 t542.length co75) (.bool t545) (.int .i64 t546) (.int .i64 t547) (.bool t548) (.string t549) (Kd.R_types HO544.out BK551.out (by decide)) (fun _ hk => hk.2)) (fun _ h_ => h_.1))) hb); replace BK499 := As (blk_below (g := gb499) (o := .cells #[.bool false, .int .u64 0, .int .u64 0, .bool false, .int .u64 0, .int .u64 0, .int .i64 0, .int .i64 0, .string (⟨#[]⟩ : ByteArray)] 30 (0, 0)) (by refine kb ?_; (iterate 16 (refine blk_far ?_ NB499_551.out _; refine kb ?_)); exact BK499.out) hb); replace BK500 := As (blk_below (g := gb500) (o := .cells #[.bool false, .int .u64 0, .int .u64 0, .bool false, .int .u64 0, .int .u64 0, .int .i64 0, .int .i64 0, .int .i64 0, .int .i64 0, .bool false, .string (⟨#[]⟩ : ByteArray)] 66 (0, 0)) (by refine kb ?_; (iterate 16 (refine blk_far ?_ NB500_551.out _; refine kb ?_)); exact BK500.out) hb); replace BK551 := As (blk_below (g := gb551) (o := .cells #[.int .i64 t532, .int .i64 t533, .int .i64 t534, .int .i64 t535, .bool t536, .int .u64 t537, .int .u64 t538, .bool t539, .int .u64 t540, .int .u64 t541, .slice Ao75 t542.length co75, .bool t545, .int .i64 t546, .int .i64 t547, .bool t548, .string t549] 60 (0, 0)) (by refine kb ?_; exact blk_all_16 (kb BK551.out) (by rfl)) hb); replace HB := As (below_step (kB3 HB.out GE499.out GE500.out GE551.out) hb); (try clear hb); (try clear hk)) | ((with_reducible refine gate_store (t := 66) (p := 4) rfl ?_); refine store_rowev_12 gb500 (.bool t552) (.int .u64 t553) (.int .u64 t554) (.bool t555) (.int .u64 t556) (.int .u64 t557) (.int .i64 t558) (.int .i64 t559) (.int .i64 t560) (.int .i64 t561) (.bool t562) (.string t563) rfl (t := 66) (p := 4) (v := _) rfl rfl rfl rfl (t' := 66) (kb BK500.out) (by rfl) (by kernel_rfl) (by rfl) ?_))
  have n0_ : Aside0 (Kd.R k91 91 ((((((((((((w76.setCell ⟨gb500, 0, none⟩ (.bool t552)).setCell ⟨gb500, 1, none⟩ (.int .u64 t553)).setCell ⟨gb500, 2, none⟩ (.int .u64 t554)).setCell ⟨gb500, 3, none⟩ (.bool t555)).setCell ⟨gb500, 4, none⟩ (.int .u64 t556)).setCell ⟨gb500, 5, none⟩ (.int .u64 t557)).setCell ⟨gb500, 6, none⟩ (.int .i64 t558)).setCell ⟨gb500, 7, none⟩ (.int .i64 t559)).setCell ⟨gb500, 8, none⟩ (.int .i64 t560)).setCell ⟨gb500, 9, none⟩ (.int .i64 t561)).setCell ⟨gb500, 10, none⟩ (.bool t562)).setCell ⟨gb500, 11, none⟩ (.string t563)) w.heap.size (fun _ => True) (.slice Ao75 t542.length co75) t542) := ⟨by (with_reducible repeat (first | apply Kd.R_alloc | apply Kd.R_drewN | apply Kd.R_drew)); exact Kd.R_mono (Kd.R_puts_0_12 gb500 (.bool t552) (.int .u64 t553) (.int .u64 t554) (.bool t555) (.int .u64 t556) (.int .u64 t557) (.int .i64 t558) (.int .i64 t559) (.int .i64 t560) (.int .i64 t561) (.bool t562) (.string t563) (Kd.R_types HO544.out BK500.out (by decide)) (fun _ hk => hk.2)) (fun _ hk => trivial)⟩
  have n1_ : Aside0 (((((((((((((w76.setCell ⟨gb500, 0, none⟩ (.bool t552)).setCell ⟨gb500, 1, none⟩ (.int .u64 t553)).setCell ⟨gb500, 2, none⟩ (.int .u64 t554)).setCell ⟨gb500, 3, none⟩ (.bool t555)).setCell ⟨gb500, 4, none⟩ (.int .u64 t556)).setCell ⟨gb500, 5, none⟩ (.int .u64 t557)).setCell ⟨gb500, 6, none⟩ (.int .i64 t558)).setCell ⟨gb500, 7, none⟩ (.int .i64 t559)).setCell ⟨gb500, 8, none⟩ (.int .i64 t560)).setCell ⟨gb500, 9, none⟩ (.int .i64 t561)).setCell ⟨gb500, 10, none⟩ (.bool t562)).setCell ⟨gb500, 11, none⟩ (.string t563)).heap[gb499]? = some (.cells #[.bool false, .int .u64 0, .int .u64 0, .bool false, .int .u64 0, .int .u64 0, .int .i64 0, .int .i64 0, .string (⟨#[]⟩ : ByteArray)] 30 (0, 0))) := ⟨by refine kb ?_; (iterate 12 (refine blk_far ?_ NB499_500.out _; refine kb ?_)); exact BK499.out⟩
  have n2_ : Aside0 (((((((((((((w76.setCell ⟨gb500, 0, none⟩ (.bool t552)).setCell ⟨gb500, 1, none⟩ (.int .u64 t553)).setCell ⟨gb500, 2, none⟩ (.int .u64 t554)).setCell ⟨gb500, 3, none⟩ (.bool t555)).setCell ⟨gb500, 4, none⟩ (.int .u64 t556)).setCell ⟨gb500, 5, none⟩ (.int .u64 t557)).setCell ⟨gb500, 6, none⟩ (.int .i64 t558)).setCell ⟨gb500, 7, none⟩ (.int .i64 t559)).setCell ⟨gb500, 8, none⟩ (.int .i64 t560)).setCell ⟨gb500, 9, none⟩ (.int .i64 t561)).setCell ⟨gb500, 10, none⟩ (.bool t562)).setCell ⟨gb500, 11, none⟩ (.string t563)).heap[gb500]? = some (.cells #[.bool t552, .int .u64 t553, .int .u64 t554, .bool t555, .int .u64 t556, .int .u64 t557, .int .i64 t558, .int .i64 t559, .int .i64 t560, .int .i64 t561, .bool t562, .string t563] 66 (0, 0))) := ⟨by refine kb ?_; exact blk_all_12 (kb BK500.out) (by rfl)⟩
  have n3_ : Aside0 (((((((((((((w76.setCell ⟨gb500, 0, none⟩ (.bool t552)).setCell ⟨gb500, 1, none⟩ (.int .u64 t553)).setCell ⟨gb500, 2, none⟩ (.int .u64 t554)).setCell ⟨gb500, 3, none⟩ (.bool t555)).setCell ⟨gb500, 4, none⟩ (.int .u64 t556)).setCell ⟨gb500, 5, none⟩ (.int .u64 t557)).setCell ⟨gb500, 6, none⟩ (.int .i64 t558)).setCell ⟨gb500, 7, none⟩ (.int .i64 t559)).setCell ⟨gb500, 8, none⟩ (.int .i64 t560)).setCell ⟨gb500, 9, none⟩ (.int .i64 t561)).setCell ⟨gb500, 10, none⟩ (.bool t562)).setCell ⟨gb500, 11, none⟩ (.string t563)).heap[gb551]? = some (.cells #[.int .i64 t532, .int .i64 t533, .int .i64 t534, .int .i64 t535, .bool t536, .int .u64 t537, .int .u64 t538, .bool t539, .int .u64 t540, .int .u64 t541, .slice Ao75 t542.length co75, .bool t545, .int .i64 t546, .int .i64 t547, .bool t548, .string t549] 60 (0, 0))) := ⟨by refine kb ?_; (iterate 12 (refine blk_far ?_ NB551_500.out _; refine kb ?_)); exact BK551.out⟩
  have n4_ : Aside0 (Below w.heap.size w ((((((((((((w76.setCell ⟨gb500, 0, none⟩ (.bool t552)).setCell ⟨gb500, 1, none⟩ (.int .u64 t553)).setCell ⟨gb500, 2, none⟩ (.int .u64 t554)).setCell ⟨gb500, 3, none⟩ (.bool t555)).setCell ⟨gb500, 4, none⟩ (.int .u64 t556)).setCell ⟨gb500, 5, none⟩ (.int .u64 t557)).setCell ⟨gb500, 6, none⟩ (.int .i64 t558)).setCell ⟨gb500, 7, none⟩ (.int .i64 t559)).setCell ⟨gb500, 8, none⟩ (.int .i64 t560)).setCell ⟨gb500, 9, none⟩ (.int .i64 t561)).setCell ⟨gb500, 10, none⟩ (.bool t562)).setCell ⟨gb500, 11, none⟩ (.string t563))) := ⟨kB3 HB.out GE499.out GE500.out GE551.out⟩
  (try clear HO544)
  (try clear BK499)
  (try clear BK500)
  (try clear BK551)
  (try clear HB)
  generalize ((((((((((((w76.setCell ⟨gb500, 0, none⟩ (.bool t552)).setCell ⟨gb500, 1, none⟩ (.int .u64 t553)).setCell ⟨gb500, 2, none⟩ (.int .u64 t554)).setCell ⟨gb500, 3, none⟩ (.bool t555)).setCell ⟨gb500, 4, none⟩ (.int .u64 t556)).setCell ⟨gb500, 5, none⟩ (.int .u64 t557)).setCell ⟨gb500, 6, none⟩ (.int .i64 t558)).setCell ⟨gb500, 7, none⟩ (.int .i64 t559)).setCell ⟨gb500, 8, none⟩ (.int .i64 t560)).setCell ⟨gb500, 9, none⟩ (.int .i64 t561)).setCell ⟨gb500, 10, none⟩ (.bool t562)).setCell ⟨gb500, 11, none⟩ (.string t563)) = w77 at n0_ n1_ n2_ n3_ n4_ ⊢
  have HO544 := n0_
  have BK499 := n1_
  have BK500 := n2_
  have BK551 := n3_
  have HB := n4_
  clear n0_ n1_ n2_ n3_ n4_
  replace HO544 := As (Kd.R_drew HO544.out)
  replace BK499 := As (blk_drew BK499.out)
  replace BK500 := As (blk_drew BK500.out)
  replace BK551 := As (blk_drew BK551.out)
  replace HB := As (below_drew1 HB.out)
  refine start_ (n := 21) (S := fun w' => w'.cell? ⟨gb500, 0, none⟩ = some (.bool t552) ∧ w'.cell? ⟨gb500, 1, none⟩ = some (.int .u64 t553) ∧ w'.cell? ⟨gb500, 2, none⟩ = some (.int .u64 t554) ∧ w'.cell? ⟨gb500, 3, none⟩ = some (.bool t555) ∧ w'.cell? ⟨gb500, 4, none⟩ = some (.int .u64 t556) ∧ w'.cell? ⟨gb500, 5, none⟩ = some (.int .u64 t557) ∧ w'.cell? ⟨gb500, 6, none⟩ = some (.int .i64 t558) ∧ w'.cell? ⟨gb500, 7, none⟩ = some (.int .i64 t559) ∧ w'.cell? ⟨gb500, 8, none⟩ = some (.int .i64 t560) ∧ w'.cell? ⟨gb500, 9, none⟩ = some (.int .i64 t561) ∧ w'.cell? ⟨gb500, 10, none⟩ = some (.bool t562) ∧ w'.cell? ⟨gb500, 11, none⟩ = some (.string t563)) (ds := []) #[O, O, O, O, O, O, O, O, O, O, O, O, O, O, O, O, O, O, O, O, O] (by kernel_rfl) rfl rfl ⟨kC BK500.out 0, kC BK500.out 1, kC BK500.out 2, kC BK500.out 3, kC BK500.out 4, kC BK500.out 5, kC BK500.out 6, kC BK500.out 7, kC BK500.out 8, kC BK500.out 9, kC BK500.out 10, kC BK500.out 11⟩ (fun hHeld => ?_); refine with_tabW intrusionlaw17_taken.tab13 intrusionlaw17_taken.bits13 (fun HT_ HW_ => ?_)
  generalize w77.drew = w78 at HO544 BK499 BK500 BK551 HB hHeld ⊢
  refine kP 0 37 #[I, O, O, O, O, O, O, O, O, O, O, O, O, O, O, O, O, O, O, O, O] ?_ (any_of HT_.out (by kernel_rfl))
  refine kP 2 39 #[I, O, I, O, O, O, O, O, O, O, O, O, O, O, O, O, O, O, O, O, O] ?_ (any_of HT_.out (by kernel_rfl))
  refine kP 4 41 #[I, O, I, O, I, O, O, O, O, O, O, O, O, O, O, O, O, O, O, O, O] ?_ (any_of HT_.out (by kernel_rfl))
  refine kP 6 43 #[I, O, I, O, I, O, I, O, O, O, O, O, O, O, O, O, O, O, O, O, O] ?_ (any_of HT_.out (by kernel_rfl))
  refine kP 8 45 #[I, O, I, O, I, O, I, O, I, O, O, O, O, O, O, O, O, O, O, O, O] ?_ (any_of HT_.out (by kernel_rfl))
  refine kP 11 48 #[I, O, I, O, I, O, I, O, I, O, O, I, O, O, O, O, O, O, O, O, O] ?_ (any_of HT_.out (by kernel_rfl))
  refine take_ (i := 1) (N := some 38) (v := ?_) (a' := ?_) #[I, I, I, O, I, O, I, O, I, O, O, I, O, O, O, O, O, O, O, O, O] rfl rfl (take_ofW HT_.out HW_.out (by kernel_rfl)) (fun _ _ _ h => h) (Or.inl ⟨by rfl, ?_⟩) hHeld ?_ ?_
  rotate_left
  ·rintro w' ⟨s0, s1, s2, s3, s4, s5, s6, s7, s8, s9, s10, s11⟩
   go_simp
   with_reducible rfl
  rotate_left
  ·simp only [Act.put, sA, sZ, sS, i64_w, i32_w]
   rfl
  refine take_ (i := 3) (N := some 40) (v := ?_) (a' := ?_) #[I, I, I, I, I, O, I, O, I, O, O, I, O, O, O, O, O, O, O, O, O] rfl rfl (take_ofW HT_.out HW_.out (by kernel_rfl)) (fun _ _ _ h => h) (Or.inl ⟨by rfl, ?_⟩) hHeld ?_ ?_
  rotate_left
  ·rintro w' ⟨s0, s1, s2, s3, s4, s5, s6, s7, s8, s9, s10, s11⟩
   go_simp
   with_reducible rfl
  rotate_left
  ·simp only [Act.put, sA, sZ, sS, i64_w, i32_w]
   rfl
  refine take_ (i := 5) (N := some 42) (v := ?_) (a' := ?_) #[I, I, I, I, I, I, I, O, I, O, O, I, O, O, O, O, O, O, O, O, O] rfl rfl (take_ofW HT_.out HW_.out (by kernel_rfl)) (fun _ _ _ h => h) (Or.inl ⟨by rfl, ?_⟩) hHeld ?_ ?_
  rotate_left
  ·rintro w' ⟨s0, s1, s2, s3, s4, s5, s6, s7, s8, s9, s10, s11⟩
   go_simp
   with_reducible rfl
  rotate_left
  ·simp only [Act.put, sA, sZ, sS, i64_w, i32_w]
   rfl
  refine take_ (i := 7) (N := some 44) (v := ?_) (a' := ?_) #[I, I, I, I, I, I, I, I, I, O, O, I, O, O, O, O, O, O, O, O, O] rfl rfl (take_ofW HT_.out HW_.out (by kernel_rfl)) (fun _ _ _ h => h) (Or.inl ⟨by rfl, ?_⟩) hHeld ?_ ?_
  rotate_left
  ·rintro w' ⟨s0, s1, s2, s3, s4, s5, s6, s7, s8, s9, s10, s11⟩
   go_simp
   with_reducible rfl
  rotate_left
  ·simp only [Act.put, sA, sZ, sS, i64_w, i32_w]
   rfl
  refine take_ (i := 9) (N := some 46) (v := ?_) (a' := ?_) #[I, I, I, I, I, I, I, I, I, I, O, I, O, O, O, O, O, O, O, O, O] rfl rfl (take_ofW HT_.out HW_.out (by kernel_rfl)) (fun _ _ _ h => h) (Or.inl ⟨by rfl, ?_⟩) hHeld ?_ ?_
  rotate_left
  ·rintro w' ⟨s0, s1, s2, s3, s4, s5, s6, s7, s8, s9, s10, s11⟩
   go_simp
   with_reducible rfl
  rotate_left
  ·simp only [Act.put, sA, sZ, sS, i64_w, i32_w]
   rfl
  refine kP 10 47 #[I, I, I, I, I, I, I, I, I, I, I, I, O, O, O, O, O, O, O, O, O] ?_ (any_of HT_.out (by kernel_rfl))
  refine take_ (i := 12) (N := some 49) (v := ?_) (a' := ?_) #[I, I, I, I, I, I, I, I, I, I, I, I, I, O, O, O, O, O, O, O, O] rfl rfl (take_ofW HT_.out HW_.out (by kernel_rfl)) (fun _ _ _ h => h) (Or.inl ⟨by rfl, ?_⟩) hHeld ?_ ?_
  rotate_left
  ·rintro w' ⟨s0, s1, s2, s3, s4, s5, s6, s7, s8, s9, s10, s11⟩
   go_simp
   with_reducible rfl
  rotate_left
  ·simp only [Act.put, sA, sZ, sS, i64_w, i32_w]
   rfl
  refine kP 13 50 #[I, I, I, I, I, I, I, I, I, I, I, I, I, I, O, O, O, O, O, O, O] ?_ (any_of HT_.out (by kernel_rfl))
  refine kP 14 51 #[I, I, I, I, I, I, I, I, I, I, I, I, I, I, I, O, O, O, O, O, O] ?_ (any_of HT_.out (by kernel_rfl))
  refine pure_ (i := 15) (N := some 52) (v := undef) (a' := ?_) #[I, I, I, I, I, I, I, I, I, I, I, I, I, I, I, I, O, O, O, O, O] rfl rfl (any_of HT_.out (by kernel_rfl)) (fun _ _ _ h => h) (Or.inr ⟨by rfl, rfl⟩) ?_ ?_
  rotate_left
  ·simp only [Act.put, sA, sZ, sS, i64_w, i32_w]
   rfl
  refine pure_ (i := 16) (N := some 53) (v := undef) (a' := ?_) #[I, I, I, I, I, I, I, I, I, I, I, I, I, I, I, I, I, O, O, O, O] rfl rfl (any_of HT_.out (by kernel_rfl)) (fun _ _ _ h => h) (Or.inr ⟨by rfl, rfl⟩) ?_ ?_
  rotate_left
  ·simp only [Act.put, sA, sZ, sS, i64_w, i32_w]
   rfl
  refine pure_ (i := 17) (N := some 54) (v := undef) (a' := ?_) #[I, I, I, I, I, I, I, I, I, I, I, I, I, I, I, I, I, I, O, O, O] rfl rfl (any_of HT_.out (by kernel_rfl)) (fun _ _ _ h => h) (Or.inr ⟨by rfl, rfl⟩) ?_ ?_
  rotate_left
  ·simp only [Act.put, sA, sZ, sS, i64_w, i32_w]
   rfl
  refine kP 18 55 #[I, I, I, I, I, I, I, I, I, I, I, I, I, I, I, I, I, I, I, O, O] ?_ (any_of HT_.out (by kernel_rfl))
  refine one_ (i := 19) (N := none) #[I, I, I, I, I, I, I, I, I, I, I, I, I, I, I, I, I, I, I, I, O] rfl rfl (one_of HT_.out (by kernel_rfl)) (by decide) (fun K hK => ?_)
  have hs79 : w78.cell? ⟨gb499, 0, none⟩ = some (.bool false) := (blk_cell BK499.out 0).trans rfl
  have hfs79 := blk_frozen BK499.out 0
  have hns79_1 := NB500_499.out
  have hns79_2 := NB551_499.out
  have hms79_1 := NB499_500.out
  have hms79_2 := NB499_551.out
  have hs80 : w78.cell? ⟨gb499, 1, none⟩ = some (.int .u64 0) := (blk_cell BK499.out 1).trans rfl
  have hfs80 := blk_frozen BK499.out 1
  have hns80_1 := NB500_499.out
  have hns80_2 := NB551_499.out
  have hms80_1 := NB499_500.out
  have hms80_2 := NB499_551.out
  have hs81 : w78.cell? ⟨gb499, 2, none⟩ = some (.int .u64 0) := (blk_cell BK499.out 2).trans rfl
  have hfs81 := blk_frozen BK499.out 2
  have hns81_1 := NB500_499.out
  have hns81_2 := NB551_499.out
  have hms81_1 := NB499_500.out
  have hms81_2 := NB499_551.out
  have hs82 : w78.cell? ⟨gb499, 3, none⟩ = some (.bool false) := (blk_cell BK499.out 3).trans rfl
  have hfs82 := blk_frozen BK499.out 3
  have hns82_1 := NB500_499.out
  have hns82_2 := NB551_499.out
  have hms82_1 := NB499_500.out
  have hms82_2 := NB499_551.out
  have hs83 : w78.cell? ⟨gb499, 4, none⟩ = some (.int .u64 0) := (blk_cell BK499.out 4).trans rfl
  have hfs83 := blk_frozen BK499.out 4
  have hns83_1 := NB500_499.out
  have hns83_2 := NB551_499.out
  have hms83_1 := NB499_500.out
  have hms83_2 := NB499_551.out
  have hs84 : w78.cell? ⟨gb499, 5, none⟩ = some (.int .u64 0) := (blk_cell BK499.out 5).trans rfl
  have hfs84 := blk_frozen BK499.out 5
  have hns84_1 := NB500_499.out
  have hns84_2 := NB551_499.out
  have hms84_1 := NB499_500.out
  have hms84_2 := NB499_551.out
  have hs85 : w78.cell? ⟨gb499, 6, none⟩ = some (.int .i64 0) := (blk_cell BK499.out 6).trans rfl
  have hfs85 := blk_frozen BK499.out 6
  have hns85_1 := NB500_499.out
  have hns85_2 := NB551_499.out
  have hms85_1 := NB499_500.out
  have hms85_2 := NB499_551.out
  have hs86 : w78.cell? ⟨gb499, 7, none⟩ = some (.int .i64 0) := (blk_cell BK499.out 7).trans rfl
  have hfs86 := blk_frozen BK499.out 7
  have hns86_1 := NB500_499.out
  have hns86_2 := NB551_499.out
  have hms86_1 := NB499_500.out
  have hms86_2 := NB499_551.out
  have hs87 : w78.cell? ⟨gb499, 8, none⟩ = some (.string (⟨#[]⟩ : ByteArray)) := (blk_cell BK499.out 8).trans rfl
  have hfs87 := blk_frozen BK499.out 8
  have hns87_1 := NB500_499.out
  have hns87_2 := NB551_499.out
  have hms87_1 := NB499_500.out
  have hms87_2 := NB499_551.out
  refine skip_ (w1 := ?_) (by rfl) rfl ?_ ?_
  rotate_left
  ·go_simp
   rfl
  refine hK.out _ _ ⟨((cell_far (p := ⟨gb499, _, none⟩) NB500_499.out _).trans (((cell_far (p := ⟨gb499, _, none⟩) NB500_499.out _).trans (((cell_far (p := ⟨gb499, _, none⟩) NB500_499.out _).trans (((cell_far (p := ⟨gb499, _, none⟩) NB500_499.out _).trans (((cell_far (p := ⟨gb499, _, none⟩) NB500_499.out _).trans (((cell_far (p := ⟨gb499, _, none⟩) NB500_499.out _).trans (((cell_far (p := ⟨gb499, _, none⟩) NB500_499.out _).trans (((cell_far (p := ⟨gb499, _, none⟩) NB500_499.out _).trans (kF NB500_499.out hHeld.1)))))))))))))))), ((cell_far (p := ⟨gb499, _, none⟩) NB500_499.out _).trans (((cell_far (p := ⟨gb499, _, none⟩) NB500_499.out _).trans (((cell_far (p := ⟨gb499, _, none⟩) NB500_499.out _).trans (((cell_far (p := ⟨gb499, _, none⟩) NB500_499.out _).trans (((cell_far (p := ⟨gb499, _, none⟩) NB500_499.out _).trans (((cell_far (p := ⟨gb499, _, none⟩) NB500_499.out _).trans (((cell_far (p := ⟨gb499, _, none⟩) NB500_499.out _).trans (((cell_far (p := ⟨gb499, _, none⟩) NB500_499.out _).trans (kF NB500_499.out hHeld.2.1)))))))))))))))), ((cell_far (p := ⟨gb499, _, none⟩) NB500_499.out _).trans (((cell_far (p := ⟨gb499, _, none⟩) NB500_499.out _).trans (((cell_far (p := ⟨gb499, _, none⟩) NB500_499.out _).trans (((cell_far (p := ⟨gb499, _, none⟩) NB500_499.out _).trans (((cell_far (p := ⟨gb499, _, none⟩) NB500_499.out _).trans (((cell_far (p := ⟨gb499, _, none⟩) NB500_499.out _).trans (((cell_far (p := ⟨gb499, _, none⟩) NB500_499.out _).trans (((cell_far (p := ⟨gb499, _, none⟩) NB500_499.out _).trans (kF NB500_499.out hHeld.2.2.1)))))))))))))))), ((cell_far (p := ⟨gb499, _, none⟩) NB500_499.out _).trans (((cell_far (p := ⟨gb499, _, none⟩) NB500_499.out _).trans (((cell_far (p := ⟨gb499, _, none⟩) NB500_499.out _).trans (((cell_far (p := ⟨gb499, _, none⟩) NB500_499.out _).trans (((cell_far (p := ⟨gb499, _, none⟩) NB500_499.out _).trans (((cell_far (p := ⟨gb499, _, none⟩) NB500_499.out _).trans (((cell_far (p := ⟨gb499, _, none⟩) NB500_499.out _).trans (((cell_far (p := ⟨gb499, _, none⟩) NB500_499.out _).trans (kF NB500_499.out hHeld.2.2.2.1)))))))))))))))), ((cell_far (p := ⟨gb499, _, none⟩) NB500_499.out _).trans (((cell_far (p := ⟨gb499, _, none⟩) NB500_499.out _).trans (((cell_far (p := ⟨gb499, _, none⟩) NB500_499.out _).trans (((cell_far (p := ⟨gb499, _, none⟩) NB500_499.out _).trans (((cell_far (p := ⟨gb499, _, none⟩) NB500_499.out _).trans (((cell_far (p := ⟨gb499, _, none⟩) NB500_499.out _).trans (((cell_far (p := ⟨gb499, _, none⟩) NB500_499.out _).trans (((cell_far (p := ⟨gb499, _, none⟩) NB500_499.out _).trans (kF NB500_499.out hHeld.2.2.2.2.1)))))))))))))))), ((cell_far (p := ⟨gb499, _, none⟩) NB500_499.out _).trans (((cell_far (p := ⟨gb499, _, none⟩) NB500_499.out _).trans (((cell_far (p := ⟨gb499, _, none⟩) NB500_499.out _).trans (((cell_far (p := ⟨gb499, _, none⟩) NB500_499.out _).trans (((cell_far (p := ⟨gb499, _, none⟩) NB500_499.out _).trans (((cell_far (p := ⟨gb499, _, none⟩) NB500_499.out _).trans (((cell_far (p := ⟨gb499, _, none⟩) NB500_499.out _).trans (((cell_far (p := ⟨gb499, _, none⟩) NB500_499.out _).trans (kF NB500_499.out hHeld.2.2.2.2.2.1)))))))))))))))), ((cell_far (p := ⟨gb499, _, none⟩) NB500_499.out _).trans (((cell_far (p := ⟨gb499, _, none⟩) NB500_499.out _).trans (((cell_far (p := ⟨gb499, _, none⟩) NB500_499.out _).trans (((cell_far (p := ⟨gb499, _, none⟩) NB500_499.out _).trans (((cell_far (p := ⟨gb499, _, none⟩) NB500_499.out _).trans (((cell_far (p := ⟨gb499, _, none⟩) NB500_499.out _).trans (((cell_far (p := ⟨gb499, _, none⟩) NB500_499.out _).trans (((cell_far (p := ⟨gb499, _, none⟩) NB500_499.out _).trans (kF NB500_499.out hHeld.2.2.2.2.2.2.1)))))))))))))))), ((cell_far (p := ⟨gb499, _, none⟩) NB500_499.out _).trans (((cell_far (p := ⟨gb499, _, none⟩) NB500_499.out _).trans (((cell_far (p := ⟨gb499, _, none⟩) NB500_499.out _).trans (((cell_far (p := ⟨gb499, _, none⟩) NB500_499.out _).trans (((cell_far (p := ⟨gb499, _, none⟩) NB500_499.out _).trans (((cell_far (p := ⟨gb499, _, none⟩) NB500_499.out _).trans (((cell_far (p := ⟨gb499, _, none⟩) NB500_499.out _).trans (((cell_far (p := ⟨gb499, _, none⟩) NB500_499.out _).trans (kF NB500_499.out hHeld.2.2.2.2.2.2.2.1)))))))))))))))), ((cell_far (p := ⟨gb499, _, none⟩) NB500_499.out _).trans (((cell_far (p := ⟨gb499, _, none⟩) NB500_499.out _).trans (((cell_far (p := ⟨gb499, _, none⟩) NB500_499.out _).trans (((cell_far (p := ⟨gb499, _, none⟩) NB500_499.out _).trans (((cell_far (p := ⟨gb499, _, none⟩) NB500_499.out _).trans (((cell_far (p := ⟨gb499, _, none⟩) NB500_499.out _).trans (((cell_far (p := ⟨gb499, _, none⟩) NB500_499.out _).trans (((cell_far (p := ⟨gb499, _, none⟩) NB500_499.out _).trans (kF NB500_499.out hHeld.2.2.2.2.2.2.2.2.1)))))))))))))))), ((cell_far (p := ⟨gb499, _, none⟩) NB500_499.out _).trans (((cell_far (p := ⟨gb499, _, none⟩) NB500_499.out _).trans (((cell_far (p := ⟨gb499, _, none⟩) NB500_499.out _).trans (((cell_far (p := ⟨gb499, _, none⟩) NB500_499.out _).trans (((cell_far (p := ⟨gb499, _, none⟩) NB500_499.out _).trans (((cell_far (p := ⟨gb499, _, none⟩) NB500_499.out _).trans (((cell_far (p := ⟨gb499, _, none⟩) NB500_499.out _).trans (((cell_far (p := ⟨gb499, _, none⟩) NB500_499.out _).trans (kF NB500_499.out hHeld.2.2.2.2.2.2.2.2.2.1)))))))))))))))), ((cell_far (p := ⟨gb499, _, none⟩) NB500_499.out _).trans (((cell_far (p := ⟨gb499, _, none⟩) NB500_499.out _).trans (((cell_far (p := ⟨gb499, _, none⟩) NB500_499.out _).trans (((cell_far (p := ⟨gb499, _, none⟩) NB500_499.out _).trans (((cell_far (p := ⟨gb499, _, none⟩) NB500_499.out _).trans (((cell_far (p := ⟨gb499, _, none⟩) NB500_499.out _).trans (((cell_far (p := ⟨gb499, _, none⟩) NB500_499.out _).trans (((cell_far (p := ⟨gb499, _, none⟩) NB500_499.out _).trans (kF NB500_499.out hHeld.2.2.2.2.2.2.2.2.2.2.1)))))))))))))))), ((cell_far (p := ⟨gb499, _, none⟩) NB500_499.out _).trans (((cell_far (p := ⟨gb499, _, none⟩) NB500_499.out _).trans (((cell_far (p := ⟨gb499, _, none⟩) NB500_499.out _).trans (((cell_far (p := ⟨gb499, _, none⟩) NB500_499.out _).trans (((cell_far (p := ⟨gb499, _, none⟩) NB500_499.out _).trans (((cell_far (p := ⟨gb499, _, none⟩) NB500_499.out _).trans (((cell_far (p := ⟨gb499, _, none⟩) NB500_499.out _).trans (((cell_far (p := ⟨gb499, _, none⟩) NB500_499.out _).trans (kF NB500_499.out hHeld.2.2.2.2.2.2.2.2.2.2.2))))))))))))))))⟩ (fun hHeld => ?_)
  clear hK K
  refine kP 20 3 #[I, I, I, I, I, I, I, I, I, I, I, I, I, I, I, I, I, I, I, I, I] ?_ (any_of HT_.out (by kernel_rfl))
  refine done_ (done_of HT_.out (by kernel_rfl)) ?_
  try go_wp2
  refine bodyPost_ret (results_ct rfl _ _ gb499 30 #[.bool t552, .int .u64 t553, .int .u64 t554, .bool t555, .int .u64 t556, .int .u64 t557, .int .i64 t558, .int .i64 t560, .string t563] (0, 0) _ rfl (by refine kb ?_; exact blk_all_9 (kb BK499.out) (by rfl)) Tryd.underlying30 rfl (by kernel_rfl)) rfl ?_
  exact ⟨kE, by exact kB3 HB.out GE499.out GE500.out GE551.out⟩
 rw [if_neg c51] at H
 have c51b0 : (t550 == 0) = false := beq_eq_false_iff_ne.mpr c51
 have c51b1 : (t550 != 0) = true := bne_iff_ne.mpr c51
 simp only [Option.some.injEq, Prod.mk.injEq] at H
 obtain ⟨rfl, rfl, rfl, rfl, rfl, rfl, rfl, rfl, rfl, rfl⟩ := H
 go_enter Tryd.func16, Tryd.ntmps16
 go_wp2_with (first | ((with_reducible refine gate_dst (N := 2) rfl ?_); refine box_event rfl (N := 2) rfl (cs := #[.bool false, .int .u64 0, .int .u64 0, .bool false, .int .u64 0, .int .u64 0, .int .i64 0, .int .i64 0, .string (⟨#[]⟩ : ByteArray)]) (t := 30) kG ?_; intro gb499 hg w88 hbox hb; have BK499 := As (hbox); have GW499 := As (gS hg (below_size (kB HB.out))); have GE499 := As (gS hg (below_size (kB HB.out))); replace HB := As (below_step (kB HB.out) hb); clear hb hbox hg) | ((with_reducible refine gate_dst (N := 4) rfl ?_); refine box_event rfl (N := 4) rfl (cs := #[.bool false, .int .u64 0, .int .u64 0, .bool false, .int .u64 0, .int .u64 0, .int .i64 0, .int .i64 0, .int .i64 0, .int .i64 0, .bool false, .string (⟨#[]⟩ : ByteArray)]) (t := 66) kG ?_; intro gb500 hg w89 hbox hb; have BK500 := As (hbox); have GW500 := As (gS hg (below_size (kB1 HB.out GE499.out))); have GE500 := As (gS hg (below_size (kB1 HB.out GE499.out))); replace HB := As (below_step (kB1 HB.out GE499.out) hb); have NB499_500 := As (gN hg (blk_lt (kb BK499.out))); have NB500_499 := As (gM hg (blk_lt (kb BK499.out))); replace BK499 := As (blk_below (kb BK499.out) hb); clear hb hbox hg) | ((with_reducible refine gate_store (t := 66) (p := 4) rfl ?_); refine store_rowev_12 gb500 (.bool false) (.int .u64 0) (.int .u64 0) (.bool false) (.int .u64 0) (.int .u64 0) (.int .i64 0) (.int .i64 0) (.int .i64 0) (.int .i64 0) (.bool false) (.string (⟨#[]⟩ : ByteArray)) rfl (t := 66) (p := 4) (v := _) rfl rfl rfl rfl (t' := 66) (kb BK500.out) (by rfl) (by kernel_rfl) (by rfl) ?_; have p5 : 0 ≤ (0 : Int) := (by omega); have q5 : 0 < a0.size := (by have : (0 : Int) < (a0.size : Int) := of_decide_eq_true (by first | (with_reducible assumption) | assumption); omega); have hx5 : ∀ h : 0 < a0.size, ((a0[0]'h).toNat : Int) = bt a0 0 := bt_at a0 0; clear p5; have qi5 : (0 < (a0.size : Int)) = True := eq_true (of_decide_eq_true (by first | (with_reducible assumption) | assumption)); replace q5 := eq_true q5) | ((with_reducible refine gate_callee (f := 41) rfl ?_); refine goesL_ (some 29) rfl rfl Tryd.func41 (by kernel_rfl) rfl #[.string a0] rfl kA ?_; (with_reducible refine (ipv6_Decode.calls k a0 t532 t533 t534 t535 t536 t537 t538 t539 t540 t541 t542 t545 t546 t547 t548 t549 t550 _ A50.out).mono ?_); rintro e w90 ⟨v543, rfl, ho0, hb⟩; refine ⟨_, rfl, ?_⟩; have HO544 := As (Kd.R_lower ho0 (below_size (kB2 HB.out GE499.out GE500.out))); replace BK499 := As (blk_below (g := gb499) (o := .cells #[.bool false, .int .u64 0, .int .u64 0, .bool false, .int .u64 0, .int .u64 0, .int .i64 0, .int .i64 0, .string (⟨#[]⟩ : ByteArray)] 30 (0, 0)) (by refine kb ?_; (iterate 12 (refine blk_far ?_ NB499_500.out _; refine kb ?_)); exact BK499.out) hb); replace BK500 := As (blk_below (g := gb500) (o := .cells #[.bool false, .int .u64 0, .int .u64 0, .bool false, .int .u64 0, .int .u64 0, .int .i64 0, .int .i64 0, .int .i64 0, .int .i64 0, .bool false, .string (⟨#[]⟩ : ByteArray)] 66 (0, 0)) (by refine kb ?_; exact blk_all_12 (kb BK500.out) (by rfl)) hb); replace HB := As (below_step (kB2 HB.out GE499.out GE500.out) hb); (try clear hb); (try clear ho0)) | ((with_reducible refine gate_dst (N := 7) rfl ?_); refine box_event rfl (N := 7) rfl (cs := #[.int .i64 0, .int .i64 0, .int .i64 0, .int .i64 0, .bool false, .int .u64 0, .int .u64 0, .bool false, .int .u64 0, .int .u64 0, .slice none 0 0, .bool false, .int .i64 0, .int .i64 0, .bool false, .string (⟨#[]⟩ : ByteArray)]) (t := 60) kG ?_; intro gb551 hg w91 hbox hb; replace HO544 := As (Kd.R_below (kR HO544.out) hb); have BK551 := As (hbox); have GW551 := As (gS hg (below_size (kB2 HB.out GE499.out GE500.out))); have GE551 := As (gS hg (below_size (kB2 HB.out GE499.out GE500.out))); replace HB := As (below_step (kB2 HB.out GE499.out GE500.out) hb); have NB499_551 := As (gN hg (blk_lt (kb BK499.out))); have NB551_499 := As (gM hg (blk_lt (kb BK499.out))); replace BK499 := As (blk_below (kb BK499.out) hb); have NB500_551 := As (gN hg (blk_lt (kb BK500.out))); have NB551_500 := As (gM hg (blk_lt (kb BK500.out))); replace BK500 := As (blk_below (kb BK500.out) hb); clear hb hbox hg; obtain ⟨Ao92, co92, eo92⟩ := Kd.R_slice HO544.out; subst eo92) | ((with_reducible refine gate_store (t := 60) (p := 7) rfl ?_); refine store_rowev_16 gb551 (.int .i64 t532) (.int .i64 t533) (.int .i64 t534) (.int .i64 t535) (.bool t536) (.int .u64 t537) (.int .u64 t538) (.bool t539) (.int .u64 t540) (.int .u64 t541) (.slice Ao92 t542.length co92) (.bool t545) (.int .i64 t546) (.int .i64 t547) (.bool t548) (.string t549) rfl (t := 60) (p := 7) (v := _) rfl rfl rfl rfl (t' := 60) (kb BK551.out) (by rfl) (by kernel_rfl) (by rfl) ?_) | ((with_reducible refine gate_store (t := 30) (p := 2) rfl ?_); refine store_rowev_9 gb499 (.bool false) (.int .u64 0) (.int .u64 0) (.bool false) (.int .u64 0) (.int .u64 0) (.int .i64 0) (.int .i64 0) (.string (⟨#[]⟩ : ByteArray)) ?hg (t := 30) (p := 2) (v := _) rfl ?hn ?hc2 ?hc3 (t' := 30) (cs := #[.bool false, .int .u64 0, .int .u64 0, .bool false, .int .u64 0, .int .u64 0, .int .i64 0, .int .i64 0, .string (⟨#[]⟩ : ByteArray)]) ?hc4 ?hc5 ?hc6 ?hc7 ?_; (case hg => rfl); (case hn => rfl); (case hc2 => rfl); (case hc3 => rfl); (case hc4 => exact (by refine kb ?_; (iterate 16 (refine blk_far ?_ NB499_551.out _; refine kb ?_)); exact BK499.out)); (case hc5 => rfl); (case hc6 => kernel_rfl); (case hc7 => rfl)))
 refine bodyPost_ret (results_ct rfl _ _ gb499 30 #[.bool false, .int .u64 0, .int .u64 0, .bool false, .int .u64 0, .int .u64 0, .int .i64 0, .int .i64 0, .string (⟨#[]⟩ : ByteArray)] (0, 0) _ rfl (by refine kb ?_; refine blk_all_9 (cs := #[.bool false, .int .u64 0, .int .u64 0, .bool false, .int .u64 0, .int .u64 0, .int .i64 0, .int .i64 0, .string (⟨#[]⟩ : ByteArray)]) ?_ rfl; refine kb ?_; (iterate 16 (refine blk_far ?_ NB499_551.out _; refine kb ?_)); exact BK499.out) Tryd.underlying30 rfl (by kernel_rfl)) rfl ?_
 exact ⟨kE, by exact kB3 HB.out GE499.out GE500.out GE551.out⟩

end Go.Proofs.YtocobalkikkhlaaDoor.X
-- short
-- short2
