/- Functions and their walks, printed by xprint.py. -/
import Derived.Test.YtocobalkikkhlaaDoorX0
import Derived.Test.YtocobalkikkhlaaDoorX4
namespace Go.Proofs.YtocobalkikkhlaaDoor.X
open Go.RowKit Go.Proofs.YtocobalkikkhlaaDoorW.PrintWords Go.Proofs.YtocobalkikkhlaaDoorW.PrintLast Go.Proofs.YtocobalkikkhlaaDoorW.PrintMore
attribute [local go_sem] max2_int min2_int max_two min_two max_three min_three max_four min_four   -- for this text's walks alone
set_option linter.unusedVariables false
set_option linter.unusedSimpArgs false

/-! ### tunnel_WrapIp: function 17 -/
def tunnel_WrapIp.j0 : Nat → ByteArray → Int → Bool → Int → Int → Bool → Int → Int → Option (Bool × Int × Int × Bool × Int × Int × Int × Int × ByteArray × Int)
 | 0, _, _, _, _, _, _, _, _ => none
 | k + 1, x2, x8, x395000, x395001, x395002, x396000, x396001, x396002 => if x8 = 4 then ((tunnel_wrapped.f x395000 x395001 x395002 x396000 x396001 x396002 4 x2).bind fun bt398 => (some (bt398.1, bt398.2.1, bt398.2.2.1, bt398.2.2.2.1, bt398.2.2.2.2.1, bt398.2.2.2.2.2.1, bt398.2.2.2.2.2.2.1, bt398.2.2.2.2.2.2.2.1, bt398.2.2.2.2.2.2.2.2.1, bt398.2.2.2.2.2.2.2.2.2))) else (if x8 = 6 then ((tunnel_wrapped.f x395000 x395001 x395002 x396000 x396001 x396002 41 x2).bind fun bt408 => (some (bt408.1, bt408.2.1, bt408.2.2.1, bt408.2.2.2.1, bt408.2.2.2.2.1, bt408.2.2.2.2.2.1, bt408.2.2.2.2.2.2.1, bt408.2.2.2.2.2.2.2.1, bt408.2.2.2.2.2.2.2.2.1, bt408.2.2.2.2.2.2.2.2.2))) else (some (false, 0, 0, false, 0, 0, 0, 0, (⟨#[]⟩ : ByteArray), 2)))
def tunnel_WrapIp.f (k : Nat) (b0 : Bool) (b1 : Int) (b2 : Int) (d0 : Bool) (d1 : Int) (d2 : Int) (a2 : ByteArray) : Option (Bool × Int × Int × Bool × Int × Int × Int × Int × ByteArray × Int) := (tunnel_related.f b0 b1 b2 d0 d1 d2).bind fun t397 => (if t397 = true then (if a2.toList = ([] : List UInt8) then (tunnel_WrapIp.j0 k a2 0 b0 b1 b2 d0 d1 d2) else (if 0 < (a2.size : Int) then (tunnel_WrapIp.j0 k a2 ((bt a2 0) / 16) b0 b1 b2 d0 d1 d2) else (none))) else (some (false, 0, 0, false, 0, 0, 0, 0, (⟨#[]⟩ : ByteArray), 13)))
theorem tunnel_WrapIp.mono_l : ∀ k, (∀ y0 y1 y2 y3 y4 y5 y6 y7, LeO (tunnel_WrapIp.j0 k y0 y1 y2 y3 y4 y5 y6 y7) (tunnel_WrapIp.j0 (k + 1) y0 y1 y2 y3 y4 y5 y6 y7))
 | 0 => fun _ _ _ _ _ _ _ _ r h => by simp [tunnel_WrapIp.j0] at h
 | k + 1 => by
  have ih0 := tunnel_WrapIp.mono_l k
  intro y0 y1 y2 y3 y4 y5 y6 y7
  unfold tunnel_WrapIp.j0
  repeat' first | with_reducible first | apply ih0 | apply LeO.refl | apply LeO.none | refine LeO.ite ?_ ?_ | refine LeO.bind ?_ (fun _ => ?_)
theorem tunnel_WrapIp.mono : ∀ a0 a1 a2 a3 a4 a5 a6 k, LeO (tunnel_WrapIp.f k a0 a1 a2 a3 a4 a5 a6) (tunnel_WrapIp.f (k + 1) a0 a1 a2 a3 a4 a5 a6) := by
 intro a0 a1 a2 a3 a4 a5 a6 k
 have ih0 := tunnel_WrapIp.mono_l k
 unfold tunnel_WrapIp.f
 repeat' first | with_reducible first | apply ih0 | apply LeO.refl | apply LeO.none | refine LeO.ite ?_ ?_ | refine LeO.bind ?_ (fun _ => ?_)
set_option maxHeartbeats 8000000 in
set_option maxRecDepth 100000 in
theorem tunnel_WrapIp.calls (k : Nat) (b0 : Bool) (b1 : Int) (b2 : Int) (d0 : Bool) (d1 : Int) (d2 : Int) (a2 : ByteArray) (r1 : Bool) (r2 : Int) (r3 : Int) (r4 : Bool) (r5 : Int) (r6 : Int) (r7 : Int) (r8 : Int) (r9 : ByteArray) (r10 : Int) (w : World) (h : tunnel_WrapIp.f k b0 b1 b2 d0 d1 d2 a2 = some (r1, r2, r3, r4, r5, r6, r7, r8, r9, r10)) :
  Calls Tryd.prog 17 #[.agg #[.bool b0, .int .u64 b1, .int .u64 b2], .agg #[.bool d0, .int .u64 d1, .int .u64 d2], .string a2] w fun e w' => e = .returned (.tuple #[.agg #[.bool r1, .int .u64 r2, .int .u64 r3, .bool r4, .int .u64 r5, .int .u64 r6, .int .i64 r7, .int .i64 r8, .string r9], .int .i64 r10]) ∧ Below w.heap.size w w' := by
 have hu24 := Tryd.underlying24
 have hu30 := Tryd.underlying30
 have HB := As (Below.refl w.heap.size w)
 have H : ((tunnel_related.f b0 b1 b2 d0 d1 d2).bind fun t397 => (if t397 = true then (if a2.toList = ([] : List UInt8) then (tunnel_WrapIp.j0 k a2 0 b0 b1 b2 d0 d1 d2) else (if 0 < (a2.size : Int) then (tunnel_WrapIp.j0 k a2 ((bt a2 0) / 16) b0 b1 b2 d0 d1 d2) else (none))) else (some (false, 0, 0, false, 0, 0, 0, 0, (⟨#[]⟩ : ByteArray), 13)))) = some (r1, r2, r3, r4, r5, r6, r7, r8, r9, r10) := h
 clear h
 replace H := Option.bind_eq_some_iff.mp H
 obtain ⟨t397, A40, H⟩ := H
 replace H : (if t397 = true then (if a2.toList = ([] : List UInt8) then (tunnel_WrapIp.j0 k a2 0 b0 b1 b2 d0 d1 d2) else (if 0 < (a2.size : Int) then (tunnel_WrapIp.j0 k a2 ((bt a2 0) / 16) b0 b1 b2 d0 d1 d2) else (none))) else (some (false, 0, 0, false, 0, 0, 0, 0, (⟨#[]⟩ : ByteArray), 13))) = some (r1, r2, r3, r4, r5, r6, r7, r8, r9, r10) := H
 have A4 := As A40
 clear A40
 by_cases c5 : t397 = true
 ·subst c5
  have H1 : (if a2.toList = ([] : List UInt8) then (tunnel_WrapIp.j0 k a2 0 b0 b1 b2 d0 d1 d2) else (if 0 < (a2.size : Int) then (tunnel_WrapIp.j0 k a2 ((bt a2 0) / 16) b0 b1 b2 d0 d1 d2) else (none))) = some (r1, r2, r3, r4, r5, r6, r7, r8, r9, r10) := by rw [if_pos rfl] at H; exact H
  clear H
  have H := H1
  clear H1
  have HC6 := As H
  clear H
  go_enter Tryd.func17, Tryd.ntmps17
  go_upto_if 15 with (first | ((with_reducible refine gate_dst (N := 3) rfl ?_); refine box_event rfl (N := 3) rfl (cs := #[.bool b0, .int .u64 b1, .int .u64 b2]) (t := 24) kG ?_; intro gb394 hg w7 hbox hb; have BK394 := As (hbox); have GW394 := As ((by rw [hg]; exact (below_size (kB HB.out)) : w.heap.size ≤ gb394)); have GE394 := As ((by rw [hg]; exact (below_size (kB HB.out)) : w.heap.size ≤ gb394)); replace HB := As (below_step (kB HB.out) hb); clear hb hbox hg) | ((with_reducible refine gate_dst (N := 4) rfl ?_); refine box_event rfl (N := 4) rfl (cs := #[.bool d0, .int .u64 d1, .int .u64 d2]) (t := 24) kG ?_; intro gb395 hg w8 hbox hb; have BK395 := As (hbox); have GW395 := As ((by rw [hg]; exact (below_size (kB1 HB.out GE394.out)) : w.heap.size ≤ gb395)); have GE395 := As ((by rw [hg]; exact (below_size (kB1 HB.out GE394.out)) : w.heap.size ≤ gb395)); replace HB := As (below_step (kB1 HB.out GE394.out) hb); have NB394_395 := As ((by rw [hg]; exact Nat.ne_of_lt (blk_lt (kb BK394.out)) : gb394 ≠ gb395)); have NB395_394 := As ((by rw [hg]; exact Nat.ne_of_gt (blk_lt (kb BK394.out)) : gb395 ≠ gb394)); replace BK394 := As (blk_below (kb BK394.out) hb); clear hb hbox hg) | ((with_reducible refine gate_dst (N := 6) rfl ?_); refine box_event rfl (N := 6) rfl (cs := #[.bool false, .int .u64 0, .int .u64 0, .bool false, .int .u64 0, .int .u64 0, .int .i64 0, .int .i64 0, .string (⟨#[]⟩ : ByteArray)]) (t := 30) kG ?_; intro gb396 hg w9 hbox hb; have BK396 := As (hbox); have GW396 := As ((by rw [hg]; exact (below_size (kB2 HB.out GE394.out GE395.out)) : w.heap.size ≤ gb396)); have GE396 := As ((by rw [hg]; exact (below_size (kB2 HB.out GE394.out GE395.out)) : w.heap.size ≤ gb396)); replace HB := As (below_step (kB2 HB.out GE394.out GE395.out) hb); have NB394_396 := As ((by rw [hg]; exact Nat.ne_of_lt (blk_lt (kb BK394.out)) : gb394 ≠ gb396)); have NB396_394 := As ((by rw [hg]; exact Nat.ne_of_gt (blk_lt (kb BK394.out)) : gb396 ≠ gb394)); replace BK394 := As (blk_below (kb BK394.out) hb); have NB395_396 := As ((by rw [hg]; exact Nat.ne_of_lt (blk_lt (kb BK395.out)) : gb395 ≠ gb396)); have NB396_395 := As ((by rw [hg]; exact Nat.ne_of_gt (blk_lt (kb BK395.out)) : gb396 ≠ gb395)); replace BK395 := As (blk_below (kb BK395.out) hb); clear hb hbox hg; have hnb10 := NB394_395.out; have hnc10 := NB395_394.out; have hnb11 := NB394_396.out; have hnc11 := NB396_394.out; have hcz12_0 := cells_3 BK394.out; have hfz12_0 := fun j_ => blk_frozen BK394.out j_; have hnb13 := NB395_396.out; have hnc13 := NB396_395.out; have hcz14_0 := cells_3 BK395.out; have hfz14_0 := fun j_ => blk_frozen BK395.out j_) | ((with_reducible refine gate_callee (f := 26) rfl ?_); refine goesL_ (some 11) rfl rfl Tryd.func26 (by kernel_rfl) rfl #[.agg #[.bool b0, .int .u64 b1, .int .u64 b2], .agg #[.bool d0, .int .u64 d1, .int .u64 d2]] rfl kA ?_; (with_reducible refine (tunnel_related.calls b0 b1 b2 d0 d1 d2 true _ A4.out).mono ?_); rintro e w15 ⟨rfl, hb⟩; refine ⟨_, rfl, ?_⟩; replace BK394 := As (blk_below (kb BK394.out) hb); replace BK395 := As (blk_below (kb BK395.out) hb); replace BK396 := As (blk_below (kb BK396.out) hb); replace HB := As (below_step (kB3 HB.out GE394.out GE395.out GE396.out) hb); (try clear hb)))
  (try simp only [Act.put, sA, sZ, sS])
  go_cut [8] (fun v8 wc => ∃ (kq : Nat) (x8_5 : Int), v8 = .int .u8 x8_5 ∧ Aside0 (tunnel_WrapIp.j0 kq a2 x8_5 b0 b1 b2 d0 d1 d2 = some (r1, r2, r3, r4, r5, r6, r7, r8, r9, r10)) ∧ Aside0 (kq ≤ k) ∧ Aside0 (wc.heap[gb394]? = some (.cells #[.bool b0, .int .u64 b1, .int .u64 b2] 24 (0, 0))) ∧ Aside0 (wc.heap[gb395]? = some (.cells #[.bool d0, .int .u64 d1, .int .u64 d2] 24 (0, 0))) ∧ Aside0 (wc.heap[gb396]? = some (.cells #[.bool false, .int .u64 0, .int .u64 0, .bool false, .int .u64 0, .int .u64 0, .int .i64 0, .int .i64 0, .string (⟨#[]⟩ : ByteArray)] 30 (0, 0))) ∧ Aside0 (Below w.heap.size w wc))
  case first =>
   have H := HC6.out
   clear HC6
   by_cases c16 : a2.toList = ([] : List UInt8)
   ·rw [if_pos c16] at H
    have c16b0 : (a2.toList == ([] : List UInt8)) = true := beq_iff_eq.mpr c16
    have c16b1 : (a2.toList != ([] : List UInt8)) = false := bne_eq_false_iff_eq.mpr c16
    have c16b2 : (!a2.toList.isEmpty) = false := by simp [c16]
    have c16b3 : a2.toList.isEmpty = true := by simp [c16]
    clear c16
    (first | rw [c16b0] | (simp only [i64_w, i32_w]; rw [c16b0]) | rw [c16b2] | rw [c16b3] | skip)
    have H' := As H
    clear H
    go_wp2
    go_meet
    case rel => exact ⟨_, (0), kS, H', ⟨by first | omega | exact Nat.le_refl _⟩, ⟨kb BK394.out⟩, ⟨kb BK395.out⟩, ⟨kb BK396.out⟩, ⟨kB3 HB.out GE394.out GE395.out GE396.out⟩⟩
   rw [if_neg c16] at H
   have c16b0 : (a2.toList == ([] : List UInt8)) = false := beq_eq_false_iff_ne.mpr c16
   have c16b1 : (a2.toList != ([] : List UInt8)) = true := bne_iff_ne.mpr c16
   have c16b2 : (!a2.toList.isEmpty) = true := by simp [c16]
   have c16b3 : a2.toList.isEmpty = false := by simp [c16]
   (first | rw [c16b0] | (simp only [i64_w, i32_w]; rw [c16b0]) | rw [c16b2] | rw [c16b3] | skip)
   by_cases c17 : 0 < (a2.size : Int)
   ·rw [if_pos c17] at H
    have c17b0 : decide (0 < (a2.size : Int)) = true := decide_eq_true c17
    have c17b1 : decide (0 < a2.size) = true := decide_eq_true (by omega)
    clear c17
    have H' := As H
    clear H
    have p18 : 0 ≤ (0 : Int) := (by omega)
    have q18 : 0 < a2.size := (by have : (0 : Int) < (a2.size : Int) := of_decide_eq_true (by first | (with_reducible assumption) | assumption); omega)
    have hx18 : ∀ h : 0 < a2.size, ((a2[0]'h).toNat : Int) = bt a2 0 := bt_at a2 0
    clear p18
    have qi18 : (0 < (a2.size : Int)) = True := eq_true (of_decide_eq_true (by first | (with_reducible assumption) | assumption))
    replace q18 := eq_true q18
    go_wp2
    go_meet
    case rel => exact ⟨_, ((bt a2 0) / 16), kS, H', ⟨by first | omega | exact Nat.le_refl _⟩, ⟨kb BK394.out⟩, ⟨kb BK395.out⟩, ⟨kb BK396.out⟩, ⟨kB3 HB.out GE394.out GE395.out GE396.out⟩⟩
   rw [if_neg c17] at H
   exact absurd H (by simp)
  clear HC6
  try clear c5
  try clear hcz12_0
  try clear hcz14_0
  try clear hfz12_0
  try clear hfz14_0
  obtain ⟨kq, x8_5, rfl, HA, HJ5, BK394, BK395, BK396, HB⟩ := hcut
  cases kq with
  | zero => exact absurd HA.out (by simp [tunnel_WrapIp.j0])
  | succ kj5 =>
   have H := HA.out
   clear HA
   simp only [tunnel_WrapIp.j0] at H
   by_cases c19 : x8_5 = 4
   ·rw [if_pos c19] at H
    have c19b0 : (x8_5 == 4) = true := beq_iff_eq.mpr c19
    have c19b1 : (x8_5 != 4) = false := bne_eq_false_iff_eq.mpr c19
    clear c19
    replace H := Option.bind_eq_some_iff.mp H
    obtain ⟨⟨t398, t399, t400, t401, t402, t403, t404, t405, t406, t407⟩, A200, H⟩ := H
    replace H : (some (t398, t399, t400, t401, t402, t403, t404, t405, t406, t407)) = some (r1, r2, r3, r4, r5, r6, r7, r8, r9, r10) := H
    have A20 := As A200
    clear A200
    simp only [Option.some.injEq, Prod.mk.injEq] at H
    obtain ⟨rfl, rfl, rfl, rfl, rfl, rfl, rfl, rfl, rfl, rfl⟩ := H
    have hnb21 := NB394_395.out
    have hnc21 := NB395_394.out
    have hnb22 := NB394_396.out
    have hnc22 := NB396_394.out
    have hcz23_0 := cells_3 BK394.out
    have hfz23_0 := fun j_ => blk_frozen BK394.out j_
    have hnb24 := NB395_396.out
    have hnc24 := NB396_395.out
    have hcz25_0 := cells_3 BK395.out
    have hfz25_0 := fun j_ => blk_frozen BK395.out j_
    go_wp2_with (first | ((with_reducible refine gate_callee (f := 28) rfl ?_); refine goesL_ (some 25) rfl rfl Tryd.func28 (by kernel_rfl) rfl #[.agg #[.bool b0, .int .u64 b1, .int .u64 b2], .agg #[.bool d0, .int .u64 d1, .int .u64 d2], .int .i64 4, .string a2] rfl kA ?_; (with_reducible refine (tunnel_wrapped.calls b0 b1 b2 d0 d1 d2 4 a2 t398 t399 t400 t401 t402 t403 t404 t405 t406 t407 _ A20.out).mono ?_); rintro e w26 ⟨rfl, hb⟩; refine ⟨_, rfl, ?_⟩; replace BK394 := As (blk_below (kb BK394.out) hb); replace BK395 := As (blk_below (kb BK395.out) hb); replace BK396 := As (blk_below (kb BK396.out) hb); replace HB := As (below_step (kB3 HB.out GE394.out GE395.out GE396.out) hb); (try clear hb)) | ((with_reducible refine gate_store (t := 30) (p := 6) rfl ?_); refine store_rowev_9 gb396 (.bool t398) (.int .u64 t399) (.int .u64 t400) (.bool t401) (.int .u64 t402) (.int .u64 t403) (.int .i64 t404) (.int .i64 t405) (.string t406) rfl (t := 30) (p := 6) (v := _) rfl rfl rfl rfl (t' := 30) (kb BK396.out) (by rfl) (by kernel_rfl) (by rfl) ?_))
    refine bodyPost_ret (results_ct rfl _ _ gb396 30 #[.bool t398, .int .u64 t399, .int .u64 t400, .bool t401, .int .u64 t402, .int .u64 t403, .int .i64 t404, .int .i64 t405, .string t406] (0, 0) _ rfl (by refine kb ?_; exact blk_all_9 (kb BK396.out) (by rfl)) Tryd.underlying30 rfl (by kernel_rfl)) rfl ?_
    exact ⟨kE, by exact kB3 HB.out GE394.out GE395.out GE396.out⟩
   rw [if_neg c19] at H
   have c19b0 : (x8_5 == 4) = false := beq_eq_false_iff_ne.mpr c19
   have c19b1 : (x8_5 != 4) = true := bne_iff_ne.mpr c19
   by_cases c27 : x8_5 = 6
   ·rw [if_pos c27] at H
    have c27b0 : (x8_5 == 6) = true := beq_iff_eq.mpr c27
    have c27b1 : (x8_5 != 6) = false := bne_eq_false_iff_eq.mpr c27
    clear c27
    replace H := Option.bind_eq_some_iff.mp H
    obtain ⟨⟨t408, t409, t410, t411, t412, t413, t414, t415, t416, t417⟩, A280, H⟩ := H
    replace H : (some (t408, t409, t410, t411, t412, t413, t414, t415, t416, t417)) = some (r1, r2, r3, r4, r5, r6, r7, r8, r9, r10) := H
    have A28 := As A280
    clear A280
    simp only [Option.some.injEq, Prod.mk.injEq] at H
    obtain ⟨rfl, rfl, rfl, rfl, rfl, rfl, rfl, rfl, rfl, rfl⟩ := H
    have hnb29 := NB394_395.out
    have hnc29 := NB395_394.out
    have hnb30 := NB394_396.out
    have hnc30 := NB396_394.out
    have hcz31_0 := cells_3 BK394.out
    have hfz31_0 := fun j_ => blk_frozen BK394.out j_
    have hnb32 := NB395_396.out
    have hnc32 := NB396_395.out
    have hcz33_0 := cells_3 BK395.out
    have hfz33_0 := fun j_ => blk_frozen BK395.out j_
    go_wp2_with (first | ((with_reducible refine gate_callee (f := 28) rfl ?_); refine goesL_ (some 33) rfl rfl Tryd.func28 (by kernel_rfl) rfl #[.agg #[.bool b0, .int .u64 b1, .int .u64 b2], .agg #[.bool d0, .int .u64 d1, .int .u64 d2], .int .i64 41, .string a2] rfl kA ?_; (with_reducible refine (tunnel_wrapped.calls b0 b1 b2 d0 d1 d2 41 a2 t408 t409 t410 t411 t412 t413 t414 t415 t416 t417 _ A28.out).mono ?_); rintro e w34 ⟨rfl, hb⟩; refine ⟨_, rfl, ?_⟩; replace BK394 := As (blk_below (kb BK394.out) hb); replace BK395 := As (blk_below (kb BK395.out) hb); replace BK396 := As (blk_below (kb BK396.out) hb); replace HB := As (below_step (kB3 HB.out GE394.out GE395.out GE396.out) hb); (try clear hb)) | ((with_reducible refine gate_store (t := 30) (p := 6) rfl ?_); refine store_rowev_9 gb396 (.bool t408) (.int .u64 t409) (.int .u64 t410) (.bool t411) (.int .u64 t412) (.int .u64 t413) (.int .i64 t414) (.int .i64 t415) (.string t416) rfl (t := 30) (p := 6) (v := _) rfl rfl rfl rfl (t' := 30) (kb BK396.out) (by rfl) (by kernel_rfl) (by rfl) ?_))
    refine bodyPost_ret (results_ct rfl _ _ gb396 30 #[.bool t408, .int .u64 t409, .int .u64 t410, .bool t411, .int .u64 t412, .int .u64 t413, .int .i64 t414, .int .i64 t415, .string t416] (0, 0) _ rfl (by refine kb ?_; exact blk_all_9 (kb BK396.out) (by rfl)) Tryd.underlying30 rfl (by kernel_rfl)) rfl ?_
    exact ⟨kE, by exact kB3 HB.out GE394.out GE395.out GE396.out⟩
   rw [if_neg c27] at H
   have c27b0 : (x8_5 == 6) = false := beq_eq_false_iff_ne.mpr c27
   have c27b1 : (x8_5 != 6) = true := bne_iff_ne.mpr c27
   simp only [Option.some.injEq, Prod.mk.injEq] at H
   obtain ⟨rfl, rfl, rfl, rfl, rfl, rfl, rfl, rfl, rfl, rfl⟩ := H
   go_wp2_with (first | ((with_reducible refine gate_store (t := 30) (p := 6) rfl ?_); refine store_rowev_9 gb396 (.bool false) (.int .u64 0) (.int .u64 0) (.bool false) (.int .u64 0) (.int .u64 0) (.int .i64 0) (.int .i64 0) (.string (⟨#[]⟩ : ByteArray)) rfl (t := 30) (p := 6) (v := _) rfl rfl rfl rfl (t' := 30) (kb BK396.out) (by rfl) (by kernel_rfl) (by rfl) ?_))
   refine bodyPost_ret (results_ct rfl _ _ gb396 30 #[.bool false, .int .u64 0, .int .u64 0, .bool false, .int .u64 0, .int .u64 0, .int .i64 0, .int .i64 0, .string (⟨#[]⟩ : ByteArray)] (0, 0) _ rfl (by refine kb ?_; exact blk_all_9 (kb BK396.out) (by rfl)) Tryd.underlying30 rfl (by kernel_rfl)) rfl ?_
   exact ⟨kE, by exact kB3 HB.out GE394.out GE395.out GE396.out⟩
 replace c5 := Bool.eq_false_iff.mpr c5
 subst c5
 have H1 : (some (false, 0, 0, false, 0, 0, 0, 0, (⟨#[]⟩ : ByteArray), 13)) = some (r1, r2, r3, r4, r5, r6, r7, r8, r9, r10) := by rw [if_neg (show ¬ (false = true) by decide)] at H; exact H
 clear H
 have H := H1
 clear H1
 simp only [Option.some.injEq, Prod.mk.injEq] at H
 obtain ⟨rfl, rfl, rfl, rfl, rfl, rfl, rfl, rfl, rfl, rfl⟩ := H
 go_enter Tryd.func17, Tryd.ntmps17
 go_wp2_with (first | ((with_reducible refine gate_dst (N := 3) rfl ?_); refine box_event rfl (N := 3) rfl (cs := #[.bool b0, .int .u64 b1, .int .u64 b2]) (t := 24) kG ?_; intro gb394 hg w35 hbox hb; have BK394 := As (hbox); have GW394 := As ((by rw [hg]; exact (below_size (kB HB.out)) : w.heap.size ≤ gb394)); have GE394 := As ((by rw [hg]; exact (below_size (kB HB.out)) : w.heap.size ≤ gb394)); replace HB := As (below_step (kB HB.out) hb); clear hb hbox hg) | ((with_reducible refine gate_dst (N := 4) rfl ?_); refine box_event rfl (N := 4) rfl (cs := #[.bool d0, .int .u64 d1, .int .u64 d2]) (t := 24) kG ?_; intro gb395 hg w36 hbox hb; have BK395 := As (hbox); have GW395 := As ((by rw [hg]; exact (below_size (kB1 HB.out GE394.out)) : w.heap.size ≤ gb395)); have GE395 := As ((by rw [hg]; exact (below_size (kB1 HB.out GE394.out)) : w.heap.size ≤ gb395)); replace HB := As (below_step (kB1 HB.out GE394.out) hb); have NB394_395 := As ((by rw [hg]; exact Nat.ne_of_lt (blk_lt (kb BK394.out)) : gb394 ≠ gb395)); have NB395_394 := As ((by rw [hg]; exact Nat.ne_of_gt (blk_lt (kb BK394.out)) : gb395 ≠ gb394)); replace BK394 := As (blk_below (kb BK394.out) hb); clear hb hbox hg) | ((with_reducible refine gate_dst (N := 6) rfl ?_); refine box_event rfl (N := 6) rfl (cs := #[.bool false, .int .u64 0, .int .u64 0, .bool false, .int .u64 0, .int .u64 0, .int .i64 0, .int .i64 0, .string (⟨#[]⟩ : ByteArray)]) (t := 30) kG ?_; intro gb396 hg w37 hbox hb; have BK396 := As (hbox); have GW396 := As ((by rw [hg]; exact (below_size (kB2 HB.out GE394.out GE395.out)) : w.heap.size ≤ gb396)); have GE396 := As ((by rw [hg]; exact (below_size (kB2 HB.out GE394.out GE395.out)) : w.heap.size ≤ gb396)); replace HB := As (below_step (kB2 HB.out GE394.out GE395.out) hb); have NB394_396 := As ((by rw [hg]; exact Nat.ne_of_lt (blk_lt (kb BK394.out)) : gb394 ≠ gb396)); have NB396_394 := As ((by rw [hg]; exact Nat.ne_of_gt (blk_lt (kb BK394.out)) : gb396 ≠ gb394)); replace BK394 := As (blk_below (kb BK394.out) hb); have NB395_396 := As ((by rw [hg]; exact Nat.ne_of_lt (blk_lt (kb BK395.out)) : gb395 ≠ gb396)); have NB396_395 := As ((by rw [hg]; exact Nat.ne_of_gt (blk_lt (kb BK395.out)) : gb396 ≠ gb395)); replace BK395 := As (blk_below (kb BK395.out) hb); clear hb hbox hg; have hnb38 := NB394_395.out; have hnc38 := NB395_394.out; have hnb39 := NB394_396.out; have hnc39 := NB396_394.out; have hcz40_0 := cells_3 BK394.out; have hfz40_0 := fun j_ => blk_frozen BK394.out j_; have hnb41 := NB395_396.out; have hnc41 := NB396_395.out; have hcz42_0 := cells_3 BK395.out; have hfz42_0 := fun j_ => blk_frozen BK395.out j_) | ((with_reducible refine gate_callee (f := 26) rfl ?_); refine goesL_ (some 11) rfl rfl Tryd.func26 (by kernel_rfl) rfl #[.agg #[.bool b0, .int .u64 b1, .int .u64 b2], .agg #[.bool d0, .int .u64 d1, .int .u64 d2]] rfl kA ?_; (with_reducible refine (tunnel_related.calls b0 b1 b2 d0 d1 d2 false _ A4.out).mono ?_); rintro e w43 ⟨rfl, hb⟩; refine ⟨_, rfl, ?_⟩; replace BK394 := As (blk_below (kb BK394.out) hb); replace BK395 := As (blk_below (kb BK395.out) hb); replace BK396 := As (blk_below (kb BK396.out) hb); replace HB := As (below_step (kB3 HB.out GE394.out GE395.out GE396.out) hb); (try clear hb)) | ((with_reducible refine gate_store (t := 30) (p := 6) rfl ?_); refine store_rowev_9 gb396 (.bool false) (.int .u64 0) (.int .u64 0) (.bool false) (.int .u64 0) (.int .u64 0) (.int .i64 0) (.int .i64 0) (.string (⟨#[]⟩ : ByteArray)) rfl (t := 30) (p := 6) (v := _) rfl rfl rfl rfl (t' := 30) (kb BK396.out) (by rfl) (by kernel_rfl) (by rfl) ?_))
 refine bodyPost_ret (results_ct rfl _ _ gb396 30 #[.bool false, .int .u64 0, .int .u64 0, .bool false, .int .u64 0, .int .u64 0, .int .i64 0, .int .i64 0, .string (⟨#[]⟩ : ByteArray)] (0, 0) _ rfl (by refine kb ?_; exact blk_all_9 (kb BK396.out) (by rfl)) Tryd.underlying30 rfl (by kernel_rfl)) rfl ?_
 exact ⟨kE, by exact kB3 HB.out GE394.out GE395.out GE396.out⟩

/-! ### udp_port: function 91 -/
def udp_port.f (a0 : Int) : Option (Bool) := if a0 ≥ 0 then (some (decide (a0 ≤ 65535))) else (some false)
set_option maxHeartbeats 8000000 in
set_option maxRecDepth 100000 in
theorem udp_port.calls (a0 : Int) (r : Bool) (w : World) (h : udp_port.f a0 = some r) :
  Calls Tryd.prog 91 #[.int .i64 a0] w fun e w' => e = .returned (.bool r) ∧ Drawn0 w w' := by
 have H : (if a0 ≥ 0 then (some (decide (a0 ≤ 65535))) else (some false)) = some r := h
 clear h
 by_cases c2 : a0 ≥ 0
 ·rw [if_pos c2] at H
  have c2b0 : decide (0 ≤ a0) = true := decide_eq_true c2
  clear c2
  obtain rfl := Option.some.inj H
  go_enter Tryd.func91, Tryd.ntmps91
  go_wp2
  go_ret
  exact ⟨by first | rfl | (simp; done) | (simp [*]; done), by repeat (first | exact Drawn0.refl _ | apply Drawn0.step)⟩
 rw [if_neg c2] at H
 have c2b0 : decide (0 ≤ a0) = false := decide_eq_false c2
 clear c2
 obtain rfl := Option.some.inj H
 go_enter Tryd.func91, Tryd.ntmps91
 go_wp2
 go_ret
 exact ⟨by first | rfl | (simp; done) | (simp [*]; done), by repeat (first | exact Drawn0.refl _ | apply Drawn0.step)⟩

end Go.Proofs.YtocobalkikkhlaaDoor.X
-- short
