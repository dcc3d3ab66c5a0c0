/- Functions and their walks, printed by xprint.py. -/
import Derived.Test.YtocobalkikkhlaaDoorX0
import Derived.Test.YtocobalkikkhlaaDoorX2
import Derived.Test.YtocobalkikkhlaaDoorX4
import Derived.Test.YtocobalkikkhlaaDoorX5
import Derived.Test.YtocobalkikkhlaaDoorX7
import Derived.Test.YtocobalkikkhlaaDoorX14
import Derived.Test.YtocobalkikkhlaaDoorX18
namespace Go.Proofs.YtocobalkikkhlaaDoor.X
open Go.RowKit Go.Proofs.YtocobalkikkhlaaDoorW.PrintWords Go.Proofs.YtocobalkikkhlaaDoorW.PrintLast Go.Proofs.YtocobalkikkhlaaDoorW.PrintMore
attribute [local go_sem] max2_int min2_int max_two min_two max_three min_three max_four min_four   -- for this text's walks alone
set_option linter.unusedVariables false
set_option linter.unusedSimpArgs false

attribute [local go_sem high] eqA30
/-! ### tunnel_WrapIp: function 17 -/
def tunnel_WrapIp.j0 : Nat → ByteArray → Int → Bool → Int → Int → Bool → Int → Int → Option (Bool × Int × Int × Bool × Int × Int × Int × Int × ByteArray × Int)
 | 0, _, _, _, _, _, _, _, _ => none
 | k + 1, x2, x8, x565000, x565001, x565002, x566000, x566001, x566002 => if x8 = 4 then ((tunnel_wrapped.f x565000 x565001 x565002 x566000 x566001 x566002 4 x2).bind fun bt568 => (some (bt568.1, bt568.2.1, bt568.2.2.1, bt568.2.2.2.1, bt568.2.2.2.2.1, bt568.2.2.2.2.2.1, bt568.2.2.2.2.2.2.1, bt568.2.2.2.2.2.2.2.1, bt568.2.2.2.2.2.2.2.2.1, bt568.2.2.2.2.2.2.2.2.2))) else (if x8 = 6 then ((tunnel_wrapped.f x565000 x565001 x565002 x566000 x566001 x566002 41 x2).bind fun bt578 => (some (bt578.1, bt578.2.1, bt578.2.2.1, bt578.2.2.2.1, bt578.2.2.2.2.1, bt578.2.2.2.2.2.1, bt578.2.2.2.2.2.2.1, bt578.2.2.2.2.2.2.2.1, bt578.2.2.2.2.2.2.2.2.1, bt578.2.2.2.2.2.2.2.2.2))) else (some (false, 0, 0, false, 0, 0, 0, 0, (⟨#[]⟩ : ByteArray), 2)))
def tunnel_WrapIp.f (k : Nat) (b0 : Bool) (b1 : Int) (b2 : Int) (d0 : Bool) (d1 : Int) (d2 : Int) (a2 : ByteArray) : Option (Bool × Int × Int × Bool × Int × Int × Int × Int × ByteArray × Int) := (tunnel_related.f b0 b1 b2 d0 d1 d2).bind fun t567 => (if t567 = true then (if a2.toList = ([] : List UInt8) then (tunnel_WrapIp.j0 k a2 0 b0 b1 b2 d0 d1 d2) else (if 0 < (a2.size : Int) then (tunnel_WrapIp.j0 k a2 ((bt a2 0) / 16) b0 b1 b2 d0 d1 d2) else (none))) else (some (false, 0, 0, false, 0, 0, 0, 0, (⟨#[]⟩ : ByteArray), 13)))
theorem tunnel_WrapIp.mono_l : ∀ k, (∀ y0 y1 y2 y3 y4 y5 y6 y7, LeO (tunnel_WrapIp.j0 k y0 y1 y2 y3 y4 y5 y6 y7) (tunnel_WrapIp.j0 (k + 1) y0 y1 y2 y3 y4 y5 y6 y7))
 | 0 => fun _ _ _ _ _ _ _ _ r h => by simp [tunnel_WrapIp.j0] at h
 | k + 1 => by
  have ih0 := tunnel_WrapIp.mono_l k
  intro y0 y1 y2 y3 y4 y5 y6 y7
  unfold tunnel_WrapIp.j0
  repeat' first | with_reducible first | apply ih0 | apply LeO.refl | apply LeO.none | refine LeO.ite ?_ ?_ | refine LeO.bind ?_ (fun _ => ?_)
theorem tunnel_WrapIp.mono : ∀ a0 a1 a2 a3 a4 a5 a6 k, LeO (tunnel_WrapIp.f k a0 a1 a2 a3 a4 a5 a6) (tunnel_WrapIp.f (k + 1) a0 a1 a2 a3 a4 a5 a6) := by
 intro a0 a1 a2 a3 a4 a5 a6 k
 have ih0 := tunnel_WrapIp.mono_l k
 unfold tunnel_WrapIp.f
 repeat' first | with_reducible first | apply ih0 | apply LeO.refl | apply LeO.none | refine LeO.ite ?_ ?_ | refine LeO.bind ?_ (fun _ => ?_)
set_option maxHeartbeats 8000000 in
set_option maxRecDepth 100000 in
theorem tunnel_WrapIp.calls (k : Nat) (b0 : Bool) (b1 : Int) (b2 : Int) (d0 : Bool) (d1 : Int) (d2 : Int) (a2 : ByteArray) (r1 : Bool) (r2 : Int) (r3 : Int) (r4 : Bool) (r5 : Int) (r6 : Int) (r7 : Int) (r8 : Int) (r9 : ByteArray) (r10 : Int) (w : World) (h : tunnel_WrapIp.f k b0 b1 b2 d0 d1 d2 a2 = some (r1, r2, r3, r4, r5, r6, r7, r8, r9, r10)) :
  Calls Tryd.prog 17 #[.agg #[.bool b0, .int .u64 b1, .int .u64 b2], .agg #[.bool d0, .int .u64 d1, .int .u64 d2], .string a2] w fun e w' => e = .returned (.tuple #[.agg #[.bool r1, .int .u64 r2, .int .u64 r3, .bool r4, .int .u64 r5, .int .u64 r6, .int .i64 r7, .int .i64 r8, .string r9], .int .i64 r10]) ∧ Below w.heap.size w w' := by
 have hu24 := Tryd.underlying24
 have hu30 := Tryd.underlying30
 have HB := As (Below.refl w.heap.size w)
 have H : ((tunnel_related.f b0 b1 b2 d0 d1 d2).bind fun t567 => (if t567 = true then (if a2.toList = ([] : List UInt8) then (tunnel_WrapIp.j0 k a2 0 b0 b1 b2 d0 d1 d2) else (if 0 < (a2.size : Int) then (tunnel_WrapIp.j0 k a2 ((bt a2 0) / 16) b0 b1 b2 d0 d1 d2) else (none))) else (some (false, 0, 0, false, 0, 0, 0, 0, (⟨#[]⟩ : ByteArray), 13)))) = some (r1, r2, r3, r4, r5, r6, r7, r8, r9, r10) := h
 clear h
 replace H := bS H
 obtain ⟨t567, A4, H⟩ := H
 by_cases c5 : t567 = true
 ·subst c5
  rw [if_pos rfl] at H
  have HC6 := As H
  clear H
  go_enter Tryd.func17, Tryd.ntmps17
  go_upto_if 15 with (first | ((with_reducible refine gate_dst (N := 3) rfl ?_); refine box_event rfl (N := 3) rfl (cs := #[.bool b0, .int .u64 b1, .int .u64 b2]) (t := 24) kG ?_; intro gb564 hg w7 hbox hb; have BK564 := As (hbox); have GW564 := As (gS hg (below_size (kB HB.out))); have GE564 := As (gS hg (below_size (kB HB.out))); replace HB := As (below_step (kB HB.out) hb); clear hb hbox hg) | ((with_reducible refine gate_dst (N := 4) rfl ?_); refine box_event rfl (N := 4) rfl (cs := #[.bool d0, .int .u64 d1, .int .u64 d2]) (t := 24) kG ?_; intro gb565 hg w8 hbox hb; have BK565 := As (hbox); have GW565 := As (gS hg (below_size (kB1 HB.out GE564.out))); have GE565 := As (gS hg (below_size (kB1 HB.out GE564.out))); replace HB := As (below_step (kB1 HB.out GE564.out) hb); have NB564_565 := As (gN hg (blk_lt (kb BK564.out))); have NB565_564 := As (gM hg (blk_lt (kb BK564.out))); replace BK564 := As (blk_below (kb BK564.out) hb); clear hb hbox hg) | ((with_reducible refine gate_dst (N := 6) rfl ?_); refine box_event rfl (N := 6) rfl (cs := #[.bool false, .int .u64 0, .int .u64 0, .bool false, .int .u64 0, .int .u64 0, .int .i64 0, .int .i64 0, .string (⟨#[]⟩ : ByteArray)]) (t := 30) kG ?_; intro gb566 hg w9 hbox hb; have BK566 := As (hbox); have GW566 := As (gS hg (below_size (kB2 HB.out GE564.out GE565.out))); have GE566 := As (gS hg (below_size (kB2 HB.out GE564.out GE565.out))); replace HB := As (below_step (kB2 HB.out GE564.out GE565.out) hb); have NB564_566 := As (gN hg (blk_lt (kb BK564.out))); have NB566_564 := As (gM hg (blk_lt (kb BK564.out))); replace BK564 := As (blk_below (kb BK564.out) hb); have NB565_566 := As (gN hg (blk_lt (kb BK565.out))); have NB566_565 := As (gM hg (blk_lt (kb BK565.out))); replace BK565 := As (blk_below (kb BK565.out) hb); clear hb hbox hg; have hnb10 := NB564_565.out; have hnc10 := NB565_564.out; have hnb11 := NB564_566.out; have hnc11 := NB566_564.out; have hcz12_0 := cells_3 BK564.out; have hfz12_0 := fun j_ => blk_frozen BK564.out j_; have hnb13 := NB565_566.out; have hnc13 := NB566_565.out; have hcz14_0 := cells_3 BK565.out; have hfz14_0 := fun j_ => blk_frozen BK565.out j_) | ((with_reducible refine gate_callee (f := 26) rfl ?_); refine goesL_ (some 11) rfl rfl Tryd.func26 (by kernel_rfl) rfl #[.agg #[.bool b0, .int .u64 b1, .int .u64 b2], .agg #[.bool d0, .int .u64 d1, .int .u64 d2]] rfl kA ?_; (with_reducible refine (tunnel_related.calls b0 b1 b2 d0 d1 d2 true _ A4.out).mono ?_); rintro e w15 ⟨rfl, hb⟩; refine ⟨_, rfl, ?_⟩; replace BK564 := As (blk_below (kb BK564.out) hb); replace BK565 := As (blk_below (kb BK565.out) hb); replace BK566 := As (blk_below (kb BK566.out) hb); replace HB := As (below_step (kB3 HB.out GE564.out GE565.out GE566.out) hb); (try clear hb)))
  (try simp only [Act.put, sA, sZ, sS])
  go_cut [8] (fun v8 wc => ∃ (kq : Nat) (x8_5 : Int), v8 = .int .u8 x8_5 ∧ Aside0 (tunnel_WrapIp.j0 kq a2 x8_5 b0 b1 b2 d0 d1 d2 = some (r1, r2, r3, r4, r5, r6, r7, r8, r9, r10)) ∧ Aside0 (kq ≤ k) ∧ Aside0 (wc.heap[gb564]? = some (.cells #[.bool b0, .int .u64 b1, .int .u64 b2] 24 (0, 0))) ∧ Aside0 (wc.heap[gb565]? = some (.cells #[.bool d0, .int .u64 d1, .int .u64 d2] 24 (0, 0))) ∧ Aside0 (wc.heap[gb566]? = some (.cells #[.bool false, .int .u64 0, .int .u64 0, .bool false, .int .u64 0, .int .u64 0, .int .i64 0, .int .i64 0, .string (⟨#[]⟩ : ByteArray)] 30 (0, 0))) ∧ Aside0 (Below w.heap.size w wc))
  case first =>
   have H := HC6.out
   clear HC6
   by_cases c16 : a2.toList = ([] : List UInt8)
   ·rw [if_pos c16] at H
    have c16b0 : (a2.toList == ([] : List UInt8)) = true := beq_iff_eq.mpr c16
    have c16b1 : (a2.toList != ([] : List UInt8)) = false := bne_eq_false_iff_eq.mpr c16
    have c16b2 : (!a2.toList.isEmpty) = false := by simp [c16]
    have c16b3 : a2.toList.isEmpty = true := by simp [c16]
    clear c16
    (first | rw [c16b0] | (simp only [i64_w, i32_w]; rw [c16b0]) | rw [c16b2] | rw [c16b3] | skip)
    have H' := As H
    clear H
    go_wp2
    go_meet
    case rel => exact ⟨_, (0), kS, H', ⟨by first | omega | exact Nat.le_refl _⟩, ⟨kb BK564.out⟩, ⟨kb BK565.out⟩, ⟨kb BK566.out⟩, ⟨kB3 HB.out GE564.out GE565.out GE566.out⟩⟩
   rw [if_neg c16] at H
   have c16b0 : (a2.toList == ([] : List UInt8)) = false := beq_eq_false_iff_ne.mpr c16
   have c16b1 : (a2.toList != ([] : List UInt8)) = true := bne_iff_ne.mpr c16
   have c16b2 : (!a2.toList.isEmpty) = true := by simp [c16]
   have c16b3 : a2.toList.isEmpty = false := by simp [c16]
   (first | rw [c16b0] | (simp only [i64_w, i32_w]; rw [c16b0]) | rw [c16b2] | rw [c16b3] | skip)
   replace H := iS H
   obtain ⟨c17, H⟩ := H
   have c17b0 := decide_eq_true c17
   have c17b1 : decide (0 < a2.size) = true := decide_eq_true (by omega)
   clear c17
   have H' := As H
   clear H
   have p18 : 0 ≤ (0 : Int) := (by omega)
   have q18 : 0 < a2.size := (by have : (0 : Int) < (a2.size : Int) := of_decide_eq_true (by first | (with_reducible assumption) | assumption); omega)
   have hx18 : ∀ h : 0 < a2.size, ((a2[0]'h).toNat : Int) = bt a2 0 := bt_at a2 0
   clear p18
   have qi18 : (0 < (a2.size : Int)) = True := eq_true (of_decide_eq_true (by first | (with_reducible assumption) | assumption))
   replace q18 := eq_true q18
   go_wp2
   go_meet
   case rel => exact ⟨_, ((bt a2 0) / 16), kS, H', ⟨by first | omega | exact Nat.le_refl _⟩, ⟨kb BK564.out⟩, ⟨kb BK565.out⟩, ⟨kb BK566.out⟩, ⟨kB3 HB.out GE564.out GE565.out GE566.out⟩⟩
  clear HC6
  try clear c5
  try clear hcz12_0
  try clear hcz14_0
  try clear hfz12_0
  try clear hfz14_0
  obtain ⟨kq, x8_5, rfl, HA, HJ5, BK564, BK565, BK566, HB⟩ := hcut
  cases kq with
  | zero => exact absurd HA.out (by simp [tunnel_WrapIp.j0])
  | succ kj5 =>
   have H := HA.out
   clear HA
   simp only [tunnel_WrapIp.j0] at H
   by_cases c19 : x8_5 = 4
   ·rw [if_pos c19] at H
    have c19b0 : (x8_5 == 4) = true := beq_iff_eq.mpr c19
    have c19b1 : (x8_5 != 4) = false := bne_eq_false_iff_eq.mpr c19
    clear c19
    replace H := bS H
    obtain ⟨⟨t568, t569, t570, t571, t572, t573, t574, t575, t576, t577⟩, A20, H⟩ := H
    try dsimp -simprocs only at H
    simp only [Option.some.injEq, Prod.mk.injEq] at H
    obtain ⟨rfl, rfl, rfl, rfl, rfl, rfl, rfl, rfl, rfl, rfl⟩ := H
    have hnb21 := NB564_565.out
    have hnc21 := NB565_564.out
    have hnb22 := NB564_566.out
    have hnc22 := NB566_564.out
    have hcz23_0 := cells_3 BK564.out
    have hfz23_0 := fun j_ => blk_frozen BK564.out j_
    have hnb24 := NB565_566.out
    have hnc24 := NB566_565.out
    have hcz25_0 := cells_3 BK565.out
    have hfz25_0 := fun j_ => blk_frozen BK565.out j_
    go_wp2_with (first | ((with_reducible refine gate_callee (f := 28) rfl ?_); refine goesL_ (some 25) rfl rfl Tryd.func28 (by kernel_rfl) rfl #[.agg #[.bool b0, .int .u64 b1, .int .u64 b2], .agg #[.bool d0, .int .u64 d1, .int .u64 d2], .int .i64 4, .string a2] rfl kA ?_; (with_reducible refine (tunnel_wrapped.calls b0 b1 b2 d0 d1 d2 4 a2 t568 t569 t570 t571 t572 t573 t574 t575 t576 t577 _ A20.out).mono ?_); rintro e w26 ⟨rfl, hb⟩; refine ⟨_, rfl, ?_⟩; replace BK564 := As (blk_below (kb BK564.out) hb); replace BK565 := As (blk_below (kb BK565.out) hb); replace BK566 := As (blk_below (kb BK566.out) hb); replace HB := As (below_step (kB3 HB.out GE564.out GE565.out GE566.out) hb); (try clear hb)) | ((with_reducible refine gate_store (t := 30) (p := 6) rfl ?_); refine store_rowev_9 gb566 (.bool t568) (.int .u64 t569) (.int .u64 t570) (.bool t571) (.int .u64 t572) (.int .u64 t573) (.int .i64 t574) (.int .i64 t575) (.string t576) rfl (t := 30) (p := 6) (v := _) rfl rfl rfl rfl (t' := 30) (kb BK566.out) (by rfl) (by kernel_rfl) (by rfl) ?_))
    refine bodyPost_ret (results_ct rfl _ _ gb566 30 #[.bool t568, .int .u64 t569, .int .u64 t570, .bool t571, .int .u64 t572, .int .u64 t573, .int .i64 t574, .int .i64 t575, .string t576] (0, 0) _ rfl (by refine kb ?_; exact blk_all_9 (kb BK566.out) (by rfl)) Tryd.underlying30 rfl (by kernel_rfl)) rfl ?_
    exact ⟨kE, by exact kB3 HB.out GE564.out GE565.out GE566.out⟩
   rw [if_neg c19] at H
   have c19b0 : (x8_5 == 4) = false := beq_eq_false_iff_ne.mpr c19
   have c19b1 : (x8_5 != 4) = true := bne_iff_ne.mpr c19
   by_cases c27 : x8_5 = 6
   ·rw [if_pos c27] at H
    have c27b0 : (x8_5 == 6) = true := beq_iff_eq.mpr c27
    have c27b1 : (x8_5 != 6) = false := bne_eq_false_iff_eq.mpr c27
    clear c27
    replace H := bS H
    obtain ⟨⟨t578, t579, t580, t581, t582, t583, t584, t585, t586, t587⟩, A28, H⟩ := H
    try dsimp -simprocs only at H
    simp only [Option.some.injEq, Prod.mk.injEq] at H
    obtain ⟨rfl, rfl, rfl, rfl, rfl, rfl, rfl, rfl, rfl, rfl⟩ := H
    have hnb29 := NB564_565.out
    have hnc29 := NB565_564.out
    have hnb30 := NB564_566.out
    have hnc30 := NB566_564.out
    have hcz31_0 := cells_3 BK564.out
    have hfz31_0 := fun j_ => blk_frozen BK564.out j_
    have hnb32 := NB565_566.out
    have hnc32 := NB566_565.out
    have hcz33_0 := cells_3 BK565.out
    have hfz33_0 := fun j_ => blk_frozen BK565.out j_
    go_wp2_with (first | ((with_reducible refine gate_callee (f := 28) rfl ?_); refine goesL_ (some 33) rfl rfl Tryd.func28 (by kernel_rfl) rfl #[.agg #[.bool b0, .int .u64 b1, .int .u64 b2], .agg #[.bool d0, .int .u64 d1, .int .u64 d2], .int .i64 41, .string a2] rfl kA ?_; (with_reducible refine (tunnel_wrapped.calls b0 b1 b2 d0 d1 d2 41 a2 t578 t579 t580 t581 t582 t583 t584 t585 t586 t587 _ A28.out).mono ?_); rintro e w34 ⟨rfl, hb⟩; refine ⟨_, rfl, ?_⟩; replace BK564 := As (blk_below (kb BK564.out) hb); replace BK565 := As (blk_below (kb BK565.out) hb); replace BK566 := As (blk_below (kb BK566.out) hb); replace HB := As (below_step (kB3 HB.out GE564.out GE565.out GE566.out) hb); (try clear hb)) | ((with_reducible refine gate_store (t := 30) (p := 6) rfl ?_); refine store_rowev_9 gb566 (.bool t578) (.int .u64 t579) (.int .u64 t580) (.bool t581) (.int .u64 t582) (.int .u64 t583) (.int .i64 t584) (.int .i64 t585) (.string t586) rfl (t := 30) (p := 6) (v := _) rfl rfl rfl rfl (t' := 30) (kb BK566.out) (by rfl) (by kernel_rfl) (by rfl) ?_))
    refine bodyPost_ret (results_ct rfl _ _ gb566 30 #[.bool t578, .int .u64 t579, .int .u64 t580, .bool t581, .int .u64 t582, .int .u64 t583, .int .i64 t584, .int .i64 t585, .string t586] (0, 0) _ rfl (by refine kb ?_; exact blk_all_9 (kb BK566.out) (by rfl)) Tryd.underlying30 rfl (by kernel_rfl)) rfl ?_
    exact ⟨kE, by exact kB3 HB.out GE564.out GE565.out GE566.out⟩
   rw [if_neg c27] at H
   have c27b0 : (x8_5 == 6) = false := beq_eq_false_iff_ne.mpr c27
   have c27b1 : (x8_5 != 6) = true := bne_iff_ne.mpr c27
   simp only [Option.some.injEq, Prod.mk.injEq] at H
   obtain ⟨rfl, rfl, rfl, rfl, rfl, rfl, rfl, rfl, rfl, rfl⟩ := H
   go_wp2_with (first | ((with_reducible refine gate_store (t := 30) (p := 6) rfl ?_); refine store_rowev_9 gb566 (.bool false) (.int .u64 0) (.int .u64 0) (.bool false) (.int .u64 0) (.int .u64 0) (.int .i64 0) (.int .i64 0) (.string (⟨#[]⟩ : ByteArray)) rfl (t := 30) (p := 6) (v := _) rfl rfl rfl rfl (t' := 30) (kb BK566.out) (by rfl) (by kernel_rfl) (by rfl) ?_))
   refine bodyPost_ret (results_ct rfl _ _ gb566 30 #[.bool false, .int .u64 0, .int .u64 0, .bool false, .int .u64 0, .int .u64 0, .int .i64 0, .int .i64 0, .string (⟨#[]⟩ : ByteArray)] (0, 0) _ rfl (by refine kb ?_; exact blk_all_9 (kb BK566.out) (by rfl)) Tryd.underlying30 rfl (by kernel_rfl)) rfl ?_
   exact ⟨kE, by exact kB3 HB.out GE564.out GE565.out GE566.out⟩
 replace c5 := Bool.eq_false_iff.mpr c5
 subst c5
 rw [if_neg (show ¬ (false = true) by decide)] at H
 simp only [Option.some.injEq, Prod.mk.injEq] at H
 obtain ⟨rfl, rfl, rfl, rfl, rfl, rfl, rfl, rfl, rfl, rfl⟩ := H
 go_enter Tryd.func17, Tryd.ntmps17
 go_wp2_with (first | ((with_reducible refine gate_dst (N := 3) rfl ?_); refine box_event rfl (N := 3) rfl (cs := #[.bool b0, .int .u64 b1, .int .u64 b2]) (t := 24) kG ?_; intro gb564 hg w35 hbox hb; have BK564 := As (hbox); have GW564 := As (gS hg (below_size (kB HB.out))); have GE564 := As (gS hg (below_size (kB HB.out))); replace HB := As (below_step (kB HB.out) hb); clear hb hbox hg) | ((with_reducible refine gate_dst (N := 4) rfl ?_); refine box_event rfl (N := 4) rfl (cs := #[.bool d0, .int .u64 d1, .int .u64 d2]) (t := 24) kG ?_; intro gb565 hg w36 hbox hb; have BK565 := As (hbox); have GW565 := As (gS hg (below_size (kB1 HB.out GE564.out))); have GE565 := As (gS hg (below_size (kB1 HB.out GE564.out))); replace HB := As (below_step (kB1 HB.out GE564.out) hb); have NB564_565 := As (gN hg (blk_lt (kb BK564.out))); have NB565_564 := As (gM hg (blk_lt (kb BK564.out))); replace BK564 := As (blk_below (kb BK564.out) hb); clear hb hbox hg) | ((with_reducible refine gate_dst (N := 6) rfl ?_); refine box_event rfl (N := 6) rfl (cs := #[.bool false, .int .u64 0, .int .u64 0, .bool false, .int .u64 0, .int .u64 0, .int .i64 0, .int .i64 0, .string (⟨#[]⟩ : ByteArray)]) (t := 30) kG ?_; intro gb566 hg w37 hbox hb; have BK566 := As (hbox); have GW566 := As (gS hg (below_size (kB2 HB.out GE564.out GE565.out))); have GE566 := As (gS hg (below_size (kB2 HB.out GE564.out GE565.out))); replace HB := As (below_step (kB2 HB.out GE564.out GE565.out) hb); have NB564_566 := As (gN hg (blk_lt (kb BK564.out))); have NB566_564 := As (gM hg (blk_lt (kb BK564.out))); replace BK564 := As (blk_below (kb BK564.out) hb); have NB565_566 := As (gN hg (blk_lt (kb BK565.out))); have NB566_565 := As (gM hg (blk_lt (kb BK565.out))); replace BK565 := As (blk_below (kb BK565.out) hb); clear hb hbox hg; have hnb38 := NB564_565.out; have hnc38 := NB565_564.out; have hnb39 := NB564_566.out; have hnc39 := NB566_564.out; have hcz40_0 := cells_3 BK564.out; have hfz40_0 := fun j_ => blk_frozen BK564.out j_; have hnb41 := NB565_566.out; have hnc41 := NB566_565.out; have hcz42_0 := cells_3 BK565.out; have hfz42_0 := fun j_ => blk_frozen BK565.out j_) | ((with_reducible refine gate_callee (f := 26) rfl ?_); refine goesL_ (some 11) rfl rfl Tryd.func26 (by kernel_rfl) rfl #[.agg #[.bool b0, .int .u64 b1, .int .u64 b2], .agg #[.bool d0, .int .u64 d1, .int .u64 d2]] rfl kA ?_; (with_reducible refine (tunnel_related.calls b0 b1 b2 d0 d1 d2 false _ A4.out).mono ?_); rintro e w43 ⟨rfl, hb⟩; refine ⟨_, rfl, ?_⟩; replace BK564 := As (blk_below (kb BK564.out) hb); replace BK565 := As (blk_below (kb BK565.out) hb); replace BK566 := As (blk_below (kb BK566.out) hb); replace HB := As (below_step (kB3 HB.out GE564.out GE565.out GE566.out) hb); (try clear hb)) | ((with_reducible refine gate_store (t := 30) (p := 6) rfl ?_); refine store_rowev_9 gb566 (.bool false) (.int .u64 0) (.int .u64 0) (.bool false) (.int .u64 0) (.int .u64 0) (.int .i64 0) (.int .i64 0) (.string (⟨#[]⟩ : ByteArray)) rfl (t := 30) (p := 6) (v := _) rfl rfl rfl rfl (t' := 30) (kb BK566.out) (by rfl) (by kernel_rfl) (by rfl) ?_))
 refine bodyPost_ret (results_ct rfl _ _ gb566 30 #[.bool false, .int .u64 0, .int .u64 0, .bool false, .int .u64 0, .int .u64 0, .int .i64 0, .int .i64 0, .string (⟨#[]⟩ : ByteArray)] (0, 0) _ rfl (by refine kb ?_; exact blk_all_9 (kb BK566.out) (by rfl)) Tryd.underlying30 rfl (by kernel_rfl)) rfl ?_
 exact ⟨kE, by exact kB3 HB.out GE564.out GE565.out GE566.out⟩

/-! ### intrusionlaw17_unwraps: function 19 -/
def intrusionlaw17_unwraps.f (k : Nat) (b0 : Bool) (b1 : Int) (b2 : Int) (b3 : Bool) (b4 : Int) (b5 : Int) (b6 : Int) (b7 : Int) (b8 : ByteArray) (a1 : Int) (a2 : ByteArray) : Option (Bool) := (tunnel_Inner.f k b0 b1 b2 b3 b4 b5 b6 b7 b8).bind fun bt589 => (if bt589.1 = a1 then (if bt589.2.1.toList = a2.toList then (if bt589.2.2 = 0 then (some (b7 == 64)) else (some false)) else (some false)) else (some false))
theorem intrusionlaw17_unwraps.mono : ∀ a0 a1 a2 a3 a4 a5 a6 a7 a8 a9 a10 k, LeO (intrusionlaw17_unwraps.f k a0 a1 a2 a3 a4 a5 a6 a7 a8 a9 a10) (intrusionlaw17_unwraps.f (k + 1) a0 a1 a2 a3 a4 a5 a6 a7 a8 a9 a10) := by
 intro a0 a1 a2 a3 a4 a5 a6 a7 a8 a9 a10 k
 unfold intrusionlaw17_unwraps.f
 repeat' first | with_reducible first | apply tunnel_Inner.mono | apply LeO.refl | apply LeO.none | refine LeO.ite ?_ ?_ | refine LeO.bind ?_ (fun _ => ?_)
set_option maxHeartbeats 8000000 in
set_option maxRecDepth 100000 in
theorem intrusionlaw17_unwraps.calls (k : Nat) (b0 : Bool) (b1 : Int) (b2 : Int) (b3 : Bool) (b4 : Int) (b5 : Int) (b6 : Int) (b7 : Int) (b8 : ByteArray) (a1 : Int) (a2 : ByteArray) (r : Bool) (w : World) (hLd : Laid w) (h : intrusionlaw17_unwraps.f k b0 b1 b2 b3 b4 b5 b6 b7 b8 a1 a2 = some r) :
  Calls Tryd.prog 19 #[.agg #[.bool b0, .int .u64 b1, .int .u64 b2, .bool b3, .int .u64 b4, .int .u64 b5, .int .i64 b6, .int .i64 b7, .string b8], .int .i64 a1, .string a2] w fun e w' => e = .returned (.bool r) ∧ Below w.heap.size w w' := by
 have hu30 := Tryd.underlying30
 have HLD := As hLd
 clear hLd
 have HB := As (Below.refl w.heap.size w)
 have H : ((tunnel_Inner.f k b0 b1 b2 b3 b4 b5 b6 b7 b8).bind fun bt589 => (if bt589.1 = a1 then (if bt589.2.1.toList = a2.toList then (if bt589.2.2 = 0 then (some (b7 == 64)) else (some false)) else (some false)) else (some false))) = some r := h
 clear h
 replace H := bS H
 obtain ⟨⟨t589, t590, t591⟩, A4, H⟩ := H
 try dsimp -simprocs only at H
 by_cases c5 : t589 = a1
 ·rw [if_pos c5] at H
  have c5b0 : (t589 == a1) = true := beq_iff_eq.mpr c5
  have c5b1 : (t589 != a1) = false := bne_eq_false_iff_eq.mpr c5
  clear c5
  by_cases c6 : t590.toList = a2.toList
  ·rw [if_pos c6] at H
   have c6b0 : (t590.toList == a2.toList) = true := beq_iff_eq.mpr c6
   have c6b1 : (t590.toList != a2.toList) = false := bne_eq_false_iff_eq.mpr c6
   clear c6
   by_cases c7 : t591 = 0
   ·rw [if_pos c7] at H
    have c7b0 : (t591 == 0) = true := beq_iff_eq.mpr c7
    have c7b1 : (t591 != 0) = false := bne_eq_false_iff_eq.mpr c7
    clear c7
    obtain rfl := Option.some.inj H
    go_enter Tryd.func19, Tryd.ntmps19
    go_wp2_with (first | ((with_reducible refine gate_dst (N := 3) rfl ?_); refine box_event rfl (N := 3) rfl (cs := #[.bool b0, .int .u64 b1, .int .u64 b2, .bool b3, .int .u64 b4, .int .u64 b5, .int .i64 b6, .int .i64 b7, .string b8]) (t := 30) kG ?_; intro gb588 hg w8 hbox hb; have BK588 := As (hbox); have GW588 := As (gS hg (below_size (kB HB.out))); have GE588 := As (gS hg (below_size (kB HB.out))); replace HB := As (below_step (kB HB.out) hb); clear hb hbox hg) | ((with_reducible refine gate_dst (N := 11) rfl ?_); (try (refine gate_guard (by rfl) ?_; dsimp only)); refine wpList_load_row ?hgd 30 _ rfl gb588 rfl 30 #[.bool b0, .int .u64 b1, .int .u64 b2, .bool b3, .int .u64 b4, .int .u64 b5, .int .i64 b6, .int .i64 b7, .string b8] (0, 0) _ (kb BK588.out) Tryd.underlying30 rfl (by kernel_rfl) ?_; (case hgd => rfl)) | ((with_reducible refine gate_callee (f := 18) rfl ?_); refine goesL_ (some 12) rfl rfl Tryd.func18 (by kernel_rfl) rfl #[.agg #[.bool b0, .int .u64 b1, .int .u64 b2, .bool b3, .int .u64 b4, .int .u64 b5, .int .i64 b6, .int .i64 b7, .string b8]] rfl kA ?_; (with_reducible refine (tunnel_Inner.calls k b0 b1 b2 b3 b4 b5 b6 b7 b8 t589 t590 t591 _ ?side1 A4.out).mono ?_); (case side1 => exact laid_below HLD.out (kB1 HB.out GE588.out)); rintro e w9 ⟨rfl, hb⟩; refine ⟨_, rfl, ?_⟩; replace BK588 := As (blk_below (kb BK588.out) hb); replace HB := As (below_step (kB1 HB.out GE588.out) hb); (try clear hb); have hcz10_0 := cells_9 BK588.out; have hfz10_0 := fun j_ => blk_frozen BK588.out j_))
    go_ret
    exact ⟨kE, by exact kB1 HB.out GE588.out⟩
   rw [if_neg c7] at H
   have c7b0 : (t591 == 0) = false := beq_eq_false_iff_ne.mpr c7
   have c7b1 : (t591 != 0) = true := bne_iff_ne.mpr c7
   obtain rfl := Option.some.inj H
   go_enter Tryd.func19, Tryd.ntmps19
   go_wp2_with (first | ((with_reducible refine gate_dst (N := 3) rfl ?_); refine box_event rfl (N := 3) rfl (cs := #[.bool b0, .int .u64 b1, .int .u64 b2, .bool b3, .int .u64 b4, .int .u64 b5, .int .i64 b6, .int .i64 b7, .string b8]) (t := 30) kG ?_; intro gb588 hg w11 hbox hb; have BK588 := As (hbox); have GW588 := As (gS hg (below_size (kB HB.out))); have GE588 := As (gS hg (below_size (kB HB.out))); replace HB := As (below_step (kB HB.out) hb); clear hb hbox hg) | ((with_reducible refine gate_dst (N := 11) rfl ?_); (try (refine gate_guard (by rfl) ?_; dsimp only)); refine wpList_load_row ?hgd 30 _ rfl gb588 rfl 30 #[.bool b0, .int .u64 b1, .int .u64 b2, .bool b3, .int .u64 b4, .int .u64 b5, .int .i64 b6, .int .i64 b7, .string b8] (0, 0) _ (kb BK588.out) Tryd.underlying30 rfl (by kernel_rfl) ?_; (case hgd => rfl)) | ((with_reducible refine gate_callee (f := 18) rfl ?_); refine goesL_ (some 12) rfl rfl Tryd.func18 (by kernel_rfl) rfl #[.agg #[.bool b0, .int .u64 b1, .int .u64 b2, .bool b3, .int .u64 b4, .int .u64 b5, .int .i64 b6, .int .i64 b7, .string b8]] rfl kA ?_; (with_reducible refine (tunnel_Inner.calls k b0 b1 b2 b3 b4 b5 b6 b7 b8 t589 t590 t591 _ ?side1 A4.out).mono ?_); (case side1 => exact laid_below HLD.out (kB1 HB.out GE588.out)); rintro e w12 ⟨rfl, hb⟩; refine ⟨_, rfl, ?_⟩; replace BK588 := As (blk_below (kb BK588.out) hb); replace HB := As (below_step (kB1 HB.out GE588.out) hb); (try clear hb)))
   go_ret
   exact ⟨kE, by exact kB1 HB.out GE588.out⟩
  rw [if_neg c6] at H
  have c6b0 : (t590.toList == a2.toList) = false := beq_eq_false_iff_ne.mpr c6
  have c6b1 : (t590.toList != a2.toList) = true := bne_iff_ne.mpr c6
  obtain rfl := Option.some.inj H
  go_enter Tryd.func19, Tryd.ntmps19
  go_wp2_with (first | ((with_reducible refine gate_dst (N := 3) rfl ?_); refine box_event rfl (N := 3) rfl (cs := #[.bool b0, .int .u64 b1, .int .u64 b2, .bool b3, .int .u64 b4, .int .u64 b5, .int .i64 b6, .int .i64 b7, .string b8]) (t := 30) kG ?_; intro gb588 hg w13 hbox hb; have BK588 := As (hbox); have GW588 := As (gS hg (below_size (kB HB.out))); have GE588 := As (gS hg (below_size (kB HB.out))); replace HB := As (below_step (kB HB.out) hb); clear hb hbox hg) | ((with_reducible refine gate_dst (N := 11) rfl ?_); (try (refine gate_guard (by rfl) ?_; dsimp only)); refine wpList_load_row ?hgd 30 _ rfl gb588 rfl 30 #[.bool b0, .int .u64 b1, .int .u64 b2, .bool b3, .int .u64 b4, .int .u64 b5, .int .i64 b6, .int .i64 b7, .string b8] (0, 0) _ (kb BK588.out) Tryd.underlying30 rfl (by kernel_rfl) ?_; (case hgd => rfl)) | ((with_reducible refine gate_callee (f := 18) rfl ?_); refine goesL_ (some 12) rfl rfl Tryd.func18 (by kernel_rfl) rfl #[.agg #[.bool b0, .int .u64 b1, .int .u64 b2, .bool b3, .int .u64 b4, .int .u64 b5, .int .i64 b6, .int .i64 b7, .string b8]] rfl kA ?_; (with_reducible refine (tunnel_Inner.calls k b0 b1 b2 b3 b4 b5 b6 b7 b8 t589 t590 t591 _ ?side1 A4.out).mono ?_); (case side1 => exact laid_below HLD.out (kB1 HB.out GE588.out)); rintro e w14 ⟨rfl, hb⟩; refine ⟨_, rfl, ?_⟩; replace BK588 := As (blk_below (kb BK588.out) hb); replace HB := As (below_step (kB1 HB.out GE588.out) hb); (try clear hb)))
  go_ret
  exact ⟨kE, by exact kB1 HB.out GE588.out⟩
 rw [if_neg c5] at H
 have c5b0 : (t589 == a1) = false := beq_eq_false_iff_ne.mpr c5
 have c5b1 : (t589 != a1) = true := bne_iff_ne.mpr c5
 obtain rfl := Option.some.inj H
 go_enter Tryd.func19, Tryd.ntmps19
 go_wp2_with (first | ((with_reducible refine gate_dst (N := 3) rfl ?_); refine box_event rfl (N := 3) rfl (cs := #[.bool b0, .int .u64 b1, .int .u64 b2, .bool b3, .int .u64 b4, .int .u64 b5, .int .i64 b6, .int .i64 b7, .string b8]) (t := 30) kG ?_; intro gb588 hg w15 hbox hb; have BK588 := As (hbox); have GW588 := As (gS hg (below_size (kB HB.out))); have GE588 := As (gS hg (below_size (kB HB.out))); replace HB := As (below_step (kB HB.out) hb); clear hb hbox hg) | ((with_reducible refine gate_dst (N := 11) rfl ?_); (try (refine gate_guard (by rfl) ?_; dsimp only)); refine wpList_load_row ?hgd 30 _ rfl gb588 rfl 30 #[.bool b0, .int .u64 b1, .int .u64 b2, .bool b3, .int .u64 b4, .int .u64 b5, .int .i64 b6, .int .i64 b7, .string b8] (0, 0) _ (kb BK588.out) Tryd.underlying30 rfl (by kernel_rfl) ?_; (case hgd => rfl)) | ((with_reducible refine gate_callee (f := 18) rfl ?_); refine goesL_ (some 12) rfl rfl Tryd.func18 (by kernel_rfl) rfl #[.agg #[.bool b0, .int .u64 b1, .int .u64 b2, .bool b3, .int .u64 b4, .int .u64 b5, .int .i64 b6, .int .i64 b7, .string b8]] rfl kA ?_; (with_reducible refine (tunnel_Inner.calls k b0 b1 b2 b3 b4 b5 b6 b7 b8 t589 t590 t591 _ ?side1 A4.out).mono ?_); (case side1 => exact laid_below HLD.out (kB1 HB.out GE588.out)); rintro e w16 ⟨rfl, hb⟩; refine ⟨_, rfl, ?_⟩; replace BK588 := As (blk_below (kb BK588.out) hb); replace HB := As (below_step (kB1 HB.out GE588.out) hb); (try clear hb)))
 go_ret
 exact ⟨kE, by exact kB1 HB.out GE588.out⟩

/-! ### intrusionlaw17_TunnelNests: function 4 -/
def intrusionlaw17_TunnelNests.j0 : Nat → ByteArray → ByteArray → Bool → Bool → Int → Int → Bool → Int → Int → Option (Bool)
 | 0, _, _, _, _, _, _, _, _, _ => none
 | k + 1, x3, x11, x60, x594000, x594001, x594002, x594003, x594004, x594005 => if x60 = true then (none) else ((tunnel_WrapIp.f k x594000 x594001 x594002 x594003 x594004 x594005 x11).bind fun bt620 => (if bt620.2.2.2.2.2.2.2.2.2 = 0 then ((tunnel_Inner.f k bt620.1 bt620.2.1 bt620.2.2.1 bt620.2.2.2.1 bt620.2.2.2.2.1 bt620.2.2.2.2.2.1 bt620.2.2.2.2.2.2.1 bt620.2.2.2.2.2.2.2.1 bt620.2.2.2.2.2.2.2.2.1).bind fun bt632 => ((intrusionlaw17_taken.f k bt632.2.1).bind fun bt635 => (if bt632.2.2 = 0 then (if bt632.2.1.toList = x11.toList then (if bt635.2.2.2.2.2.2.2.2.2 = true then ((intrusionlaw17_unwraps.f k bt635.1 bt635.2.1 bt635.2.2.1 bt635.2.2.2.1 bt635.2.2.2.2.1 bt635.2.2.2.2.2.1 bt635.2.2.2.2.2.2.1 bt635.2.2.2.2.2.2.2.1 bt635.2.2.2.2.2.2.2.2.1 3 x3).bind fun t646 => (if t646 = true then ((intrusionlaw17_awake.f k).bind fun t647 => (some t647)) else (none))) else (none)) else (none)) else (none)))) else ((intrusionlaw17_awake.f k).bind fun t631 => (some t631))))
def intrusionlaw17_TunnelNests.f (k : Nat) (b0 : Bool) (b1 : Int) (b2 : Int) (b3 : Bool) (b4 : Int) (b5 : Int) (d0 : Bool) (d1 : Int) (d2 : Int) (d3 : Bool) (d4 : Int) (d5 : Int) (a2 : Int) (a3 : ByteArray) : Option (Bool) := if (a3.size : Int) > 5000 then ((intrusionlaw17_awake.f k).bind fun t594 => (some t594)) else ((tunnel_WrapGre.f k b0 b1 b2 b3 b4 b5 3 a3 7 true).bind fun bt595 => (if bt595.2.2.2.2.2.2.2.2.2 = 0 then ((tunnel_Packet.f k bt595.1 bt595.2.1 bt595.2.2.1 bt595.2.2.2.1 bt595.2.2.2.2.1 bt595.2.2.2.2.2.1 bt595.2.2.2.2.2.2.1 bt595.2.2.2.2.2.2.2.1 bt595.2.2.2.2.2.2.2.2.1 (wrap64 (a2))).bind fun bt607 => ((intrusionlaw17_taken.f k bt607.1).bind fun bt609 => (if bt607.2 = 0 then (if bt609.2.2.2.2.2.2.2.2.2 = true then (intrusionlaw17_TunnelNests.j0 k a3 bt607.1 ((!(bt595.1 == bt609.1) || (!(bt595.2.1 == bt609.2.1) || (!(bt595.2.2.1 == bt609.2.2.1)))) || ((!(bt595.2.2.2.1 == bt609.2.2.2.1) || (!(bt595.2.2.2.2.1 == bt609.2.2.2.2.1) || (!(bt595.2.2.2.2.2.1 == bt609.2.2.2.2.2.1)))) || (!(bt595.2.2.2.2.2.2.1 == bt609.2.2.2.2.2.2.1) || (!(bt595.2.2.2.2.2.2.2.1 == bt609.2.2.2.2.2.2.2.1) || (!(bt595.2.2.2.2.2.2.2.2.1.toList == bt609.2.2.2.2.2.2.2.2.1.toList)))))) d0 d1 d2 d3 d4 d5) else (intrusionlaw17_TunnelNests.j0 k a3 bt607.1 true d0 d1 d2 d3 d4 d5)) else (intrusionlaw17_TunnelNests.j0 k a3 bt607.1 true d0 d1 d2 d3 d4 d5)))) else ((intrusionlaw17_awake.f k).bind fun t606 => (some t606))))
theorem intrusionlaw17_TunnelNests.mono_l : ∀ k, (∀ y0 y1 y2 y3 y4 y5 y6 y7 y8, LeO (intrusionlaw17_TunnelNests.j0 k y0 y1 y2 y3 y4 y5 y6 y7 y8) (intrusionlaw17_TunnelNests.j0 (k + 1) y0 y1 y2 y3 y4 y5 y6 y7 y8))
 | 0 => fun _ _ _ _ _ _ _ _ _ r h => by simp [intrusionlaw17_TunnelNests.j0] at h
 | k + 1 => by
  have ih0 := intrusionlaw17_TunnelNests.mono_l k
  intro y0 y1 y2 y3 y4 y5 y6 y7 y8
  unfold intrusionlaw17_TunnelNests.j0
  repeat' first | with_reducible first | apply ih0 | apply intrusionlaw17_awake.mono | apply intrusionlaw17_taken.mono | apply intrusionlaw17_unwraps.mono | apply tunnel_Inner.mono | apply tunnel_Packet.mono | apply tunnel_WrapGre.mono | apply tunnel_WrapIp.mono | apply LeO.refl | apply LeO.none | refine LeO.ite ?_ ?_ | refine LeO.bind ?_ (fun _ => ?_)
theorem intrusionlaw17_TunnelNests.mono : ∀ a0 a1 a2 a3 a4 a5 a6 a7 a8 a9 a10 a11 a12 a13 k, LeO (intrusionlaw17_TunnelNests.f k a0 a1 a2 a3 a4 a5 a6 a7 a8 a9 a10 a11 a12 a13) (intrusionlaw17_TunnelNests.f (k + 1) a0 a1 a2 a3 a4 a5 a6 a7 a8 a9 a10 a11 a12 a13) := by
 intro a0 a1 a2 a3 a4 a5 a6 a7 a8 a9 a10 a11 a12 a13 k
 have ih0 := intrusionlaw17_TunnelNests.mono_l k
 unfold intrusionlaw17_TunnelNests.f
 repeat' first | with_reducible first | apply ih0 | apply intrusionlaw17_awake.mono | apply intrusionlaw17_taken.mono | apply intrusionlaw17_unwraps.mono | apply tunnel_Inner.mono | apply tunnel_Packet.mono | apply tunnel_WrapGre.mono | apply tunnel_WrapIp.mono | apply LeO.refl | apply LeO.none | refine LeO.ite ?_ ?_ | refine LeO.bind ?_ (fun _ => ?_)
set_option maxHeartbeats 8000000 in
set_option maxRecDepth 100000 in
theorem intrusionlaw17_TunnelNests.calls (k : Nat) (b0 : Bool) (b1 : Int) (b2 : Int) (b3 : Bool) (b4 : Int) (b5 : Int) (d0 : Bool) (d1 : Int) (d2 : Int) (d3 : Bool) (d4 : Int) (d5 : Int) (a2 : Int) (a3 : ByteArray) (r : Bool) (w : World) (hLd : Laid w) (h : intrusionlaw17_TunnelNests.f k b0 b1 b2 b3 b4 b5 d0 d1 d2 d3 d4 d5 a2 a3 = some r) :
  Calls Tryd.prog 4 #[.agg #[.bool b0, .int .u64 b1, .int .u64 b2, .bool b3, .int .u64 b4, .int .u64 b5], .agg #[.bool d0, .int .u64 d1, .int .u64 d2, .bool d3, .int .u64 d4, .int .u64 d5], .int .u16 a2, .string a3] w fun e w' => e = .returned (.bool r) ∧ Below w.heap.size w w' := by
 have hu26 := Tryd.underlying26
 have hu24 := Tryd.underlying24
 have hu30 := Tryd.underlying30
 have HLD := As hLd
 clear hLd
 have HB := As (Below.refl w.heap.size w)
 have H : (if (a3.size : Int) > 5000 then ((intrusionlaw17_awake.f k).bind fun t594 => (some t594)) else ((tunnel_WrapGre.f k b0 b1 b2 b3 b4 b5 3 a3 7 true).bind fun bt595 => (if bt595.2.2.2.2.2.2.2.2.2 = 0 then ((tunnel_Packet.f k bt595.1 bt595.2.1 bt595.2.2.1 bt595.2.2.2.1 bt595.2.2.2.2.1 bt595.2.2.2.2.2.1 bt595.2.2.2.2.2.2.1 bt595.2.2.2.2.2.2.2.1 bt595.2.2.2.2.2.2.2.2.1 (wrap64 (a2))).bind fun bt607 => ((intrusionlaw17_taken.f k bt607.1).bind fun bt609 => (if bt607.2 = 0 then (if bt609.2.2.2.2.2.2.2.2.2 = true then (intrusionlaw17_TunnelNests.j0 k a3 bt607.1 ((!(bt595.1 == bt609.1) || (!(bt595.2.1 == bt609.2.1) || (!(bt595.2.2.1 == bt609.2.2.1)))) || ((!(bt595.2.2.2.1 == bt609.2.2.2.1) || (!(bt595.2.2.2.2.1 == bt609.2.2.2.2.1) || (!(bt595.2.2.2.2.2.1 == bt609.2.2.2.2.2.1)))) || (!(bt595.2.2.2.2.2.2.1 == bt609.2.2.2.2.2.2.1) || (!(bt595.2.2.2.2.2.2.2.1 == bt609.2.2.2.2.2.2.2.1) || (!(bt595.2.2.2.2.2.2.2.2.1.toList == bt609.2.2.2.2.2.2.2.2.1.toList)))))) d0 d1 d2 d3 d4 d5) else (intrusionlaw17_TunnelNests.j0 k a3 bt607.1 true d0 d1 d2 d3 d4 d5)) else (intrusionlaw17_TunnelNests.j0 k a3 bt607.1 true d0 d1 d2 d3 d4 d5)))) else ((intrusionlaw17_awake.f k).bind fun t606 => (some t606))))) = some r := h
 clear h
 by_cases c5 : (a3.size : Int) > 5000
 ·rw [if_pos c5] at H
  have c5b0 : decide (5000 < (a3.size : Int)) = true := decide_eq_true c5
  have c5b1 : decide (5000 < a3.size) = true := decide_eq_true (by omega)
  clear c5
  replace H := bS H
  obtain ⟨t594, A6, H⟩ := H
  obtain rfl := Option.some.inj H
  go_enter Tryd.func4, Tryd.ntmps4
  go_wp2_with (first | ((with_reducible refine gate_dst (N := 4) rfl ?_); refine box_event rfl (N := 4) rfl (cs := #[.bool b0, .int .u64 b1, .int .u64 b2, .bool b3, .int .u64 b4, .int .u64 b5]) (t := 26) kG ?_; intro gb592 hg w7 hbox hb; have BK592 := As (hbox); have GW592 := As (gS hg (below_size (kB HB.out))); have GE592 := As (gS hg (below_size (kB HB.out))); replace HB := As (below_step (kB HB.out) hb); clear hb hbox hg) | ((with_reducible refine gate_dst (N := 5) rfl ?_); refine box_event rfl (N := 5) rfl (cs := #[.bool d0, .int .u64 d1, .int .u64 d2, .bool d3, .int .u64 d4, .int .u64 d5]) (t := 26) kG ?_; intro gb593 hg w8 hbox hb; have BK593 := As (hbox); have GW593 := As (gS hg (below_size (kB1 HB.out GE592.out))); have GE593 := As (gS hg (below_size (kB1 HB.out GE592.out))); replace HB := As (below_step (kB1 HB.out GE592.out) hb); have NB592_593 := As (gN hg (blk_lt (kb BK592.out))); have NB593_592 := As (gM hg (blk_lt (kb BK592.out))); replace BK592 := As (blk_below (kb BK592.out) hb); clear hb hbox hg) | ((with_reducible refine gate_callee (f := 11) rfl ?_); refine goesL_ (some 25) rfl rfl Tryd.func11 (by kernel_rfl) rfl #[] rfl kA ?_; (with_reducible refine (intrusionlaw17_awake.calls k  t594 _ ?side1 A6.out).mono ?_); (case side1 => exact laid_below HLD.out (kB2 HB.out GE592.out GE593.out)); rintro e w9 ⟨rfl, hb⟩; refine ⟨_, rfl, ?_⟩; replace BK592 := As (blk_below (kb BK592.out) hb); replace BK593 := As (blk_below (kb BK593.out) hb); replace HB := As (below_step (kB2 HB.out GE592.out GE593.out) hb); (try clear hb)))
  go_ret
  exact ⟨kE, by exact kB2 HB.out GE592.out GE593.out⟩
 rw [if_neg c5] at H
 have c5b0 : decide (5000 < (a3.size : Int)) = false := decide_eq_false c5
 have c5b1 : decide (5000 < a3.size) = false := decide_eq_false (by omega)
 clear c5
 replace H := bS H
 obtain ⟨⟨t595, t596, t597, t598, t599, t600, t601, t602, t603, t604⟩, A10, H⟩ := H
 try dsimp -simprocs only at H
 by_cases c11 : t604 = 0
 ·rw [if_pos c11] at H
  have c11b0 : (t604 == 0) = true := beq_iff_eq.mpr c11
  have c11b1 : (t604 != 0) = false := bne_eq_false_iff_eq.mpr c11
  clear c11
  replace H := bS H
  obtain ⟨⟨t607, t608⟩, A12, H⟩ := H
  try dsimp -simprocs only at H
  replace H := bS H
  obtain ⟨⟨t609, t610, t611, t612, t613, t614, t615, t616, t617, t618⟩, A13, H⟩ := H
  try dsimp -simprocs only at H
  have HC14 := As H
  clear H
  go_enter Tryd.func4, Tryd.ntmps4
  go_upto_region 8 with (first | ((with_reducible refine gate_dst (N := 4) rfl ?_); refine box_event rfl (N := 4) rfl (cs := #[.bool b0, .int .u64 b1, .int .u64 b2, .bool b3, .int .u64 b4, .int .u64 b5]) (t := 26) kG ?_; intro gb592 hg w15 hbox hb; have BK592 := As (hbox); have GW592 := As (gS hg (below_size (kB HB.out))); have GE592 := As (gS hg (below_size (kB HB.out))); replace HB := As (below_step (kB HB.out) hb); clear hb hbox hg) | ((with_reducible refine gate_dst (N := 5) rfl ?_); refine box_event rfl (N := 5) rfl (cs := #[.bool d0, .int .u64 d1, .int .u64 d2, .bool d3, .int .u64 d4, .int .u64 d5]) (t := 26) kG ?_; intro gb593 hg w16 hbox hb; have BK593 := As (hbox); have GW593 := As (gS hg (below_size (kB1 HB.out GE592.out))); have GE593 := As (gS hg (below_size (kB1 HB.out GE592.out))); replace HB := As (below_step (kB1 HB.out GE592.out) hb); have NB592_593 := As (gN hg (blk_lt (kb BK592.out))); have NB593_592 := As (gM hg (blk_lt (kb BK592.out))); replace BK592 := As (blk_below (kb BK592.out) hb); clear hb hbox hg; have hnb17 := NB592_593.out; have hnc17 := NB593_592.out; have hcz18_0 := cells_6 BK592.out; have hfz18_0 := fun j_ => blk_frozen BK592.out j_) | ((with_reducible refine gate_callee (f := 12) rfl ?_); refine goesL_ (some 32) rfl rfl Tryd.func12 (by kernel_rfl) rfl #[.agg #[.bool b0, .int .u64 b1, .int .u64 b2], .agg #[.bool b3, .int .u64 b4, .int .u64 b5], .int .i64 3, .string a3, .int .u32 7, .bool true] rfl kA ?_; (with_reducible refine (tunnel_WrapGre.calls k b0 b1 b2 b3 b4 b5 3 a3 7 true t595 t596 t597 t598 t599 t600 t601 t602 t603 t604 _ A10.out).mono ?_); rintro e w19 ⟨rfl, hb⟩; refine ⟨_, rfl, ?_⟩; replace BK592 := As (blk_below (kb BK592.out) hb); replace BK593 := As (blk_below (kb BK593.out) hb); replace HB := As (below_step (kB2 HB.out GE592.out GE593.out) hb); (try clear hb)) | ((with_reducible refine gate_dst (N := 9) rfl ?_); refine box_event rfl (N := 9) rfl (cs := #[.bool false, .int .u64 0, .int .u64 0, .bool false, .int .u64 0, .int .u64 0, .int .i64 0, .int .i64 0, .string (⟨#[]⟩ : ByteArray)]) (t := 30) kG ?_; intro gb605 hg w20 hbox hb; have BK605 := As (hbox); have GW605 := As (gS hg (below_size (kB2 HB.out GE592.out GE593.out))); have GE605 := As (gS hg (below_size (kB2 HB.out GE592.out GE593.out))); replace HB := As (below_step (kB2 HB.out GE592.out GE593.out) hb); have NB592_605 := As (gN hg (blk_lt (kb BK592.out))); have NB605_592 := As (gM hg (blk_lt (kb BK592.out))); replace BK592 := As (blk_below (kb BK592.out) hb); have NB593_605 := As (gN hg (blk_lt (kb BK593.out))); have NB605_593 := As (gM hg (blk_lt (kb BK593.out))); replace BK593 := As (blk_below (kb BK593.out) hb); clear hb hbox hg) | ((with_reducible refine gate_store (t := 30) (p := 9) rfl ?_); refine store_rowev_9 gb605 (.bool t595) (.int .u64 t596) (.int .u64 t597) (.bool t598) (.int .u64 t599) (.int .u64 t600) (.int .i64 t601) (.int .i64 t602) (.string t603) rfl (t := 30) (p := 9) (v := _) rfl rfl rfl rfl (t' := 30) (kb BK605.out) (by rfl) (by kernel_rfl) (by rfl) ?_) | ((with_reducible refine gate_dst (N := 39) rfl ?_); (try (refine gate_guard (by rfl) ?_; dsimp only)); refine wpList_load_row ?hgd 30 _ rfl gb605 rfl 30 #[.bool t595, .int .u64 t596, .int .u64 t597, .bool t598, .int .u64 t599, .int .u64 t600, .int .i64 t601, .int .i64 t602, .string t603] (0, 0) _ (by refine kb ?_; exact blk_all_9 (kb BK605.out) (by rfl)) Tryd.underlying30 rfl (by kernel_rfl) ?_; (case hgd => rfl)) | ((with_reducible refine gate_callee (f := 14) rfl ?_); refine goesL_ (some 42) rfl rfl Tryd.func14 (by kernel_rfl) rfl #[.agg #[.bool t595, .int .u64 t596, .int .u64 t597, .bool t598, .int .u64 t599, .int .u64 t600, .int .i64 t601, .int .i64 t602, .string t603], .int .i64 (wrap64 (a2))] rfl kA ?_; (with_reducible refine (tunnel_Packet.calls k t595 t596 t597 t598 t599 t600 t601 t602 t603 (wrap64 (a2)) t607 t608 _ A12.out).mono ?_); rintro e w21 ⟨rfl, hb⟩; refine ⟨_, rfl, ?_⟩; replace BK592 := As (blk_below (g := gb592) (o := .cells #[.bool b0, .int .u64 b1, .int .u64 b2, .bool b3, .int .u64 b4, .int .u64 b5] 26 (0, 0)) (by refine kb ?_; (iterate 9 (refine blk_far ?_ NB592_605.out _; refine kb ?_)); exact BK592.out) hb); replace BK593 := As (blk_below (g := gb593) (o := .cells #[.bool d0, .int .u64 d1, .int .u64 d2, .bool d3, .int .u64 d4, .int .u64 d5] 26 (0, 0)) (by refine kb ?_; (iterate 9 (refine blk_far ?_ NB593_605.out _; refine kb ?_)); exact BK593.out) hb); replace BK605 := As (blk_below (g := gb605) (o := .cells #[.bool t595, .int .u64 t596, .int .u64 t597, .bool t598, .int .u64 t599, .int .u64 t600, .int .i64 t601, .int .i64 t602, .string t603] 30 (0, 0)) (by refine kb ?_; exact blk_all_9 (kb BK605.out) (by rfl)) hb); replace HB := As (below_step (kB3 HB.out GE592.out GE593.out GE605.out) hb); (try clear hb)) | ((with_reducible refine gate_callee (f := 16) rfl ?_); refine goesL_ (some 47) rfl rfl Tryd.func16 (by kernel_rfl) rfl #[.string t607] rfl kA ?_; (with_reducible refine (intrusionlaw17_taken.calls k t607 t609 t610 t611 t612 t613 t614 t615 t616 t617 t618 _ A13.out).mono ?_); rintro e w22 ⟨rfl, hb⟩; refine ⟨_, rfl, ?_⟩; replace BK592 := As (blk_below (kb BK592.out) hb); replace BK593 := As (blk_below (kb BK593.out) hb); replace BK605 := As (blk_below (kb BK605.out) hb); replace HB := As (below_step (kB3 HB.out GE592.out GE593.out GE605.out) hb); (try clear hb)) | ((with_reducible refine gate_dst (N := 13) rfl ?_); refine box_event rfl (N := 13) rfl (cs := #[.bool false, .int .u64 0, .int .u64 0, .bool false, .int .u64 0, .int .u64 0, .int .i64 0, .int .i64 0, .string (⟨#[]⟩ : ByteArray)]) (t := 30) kG ?_; intro gb619 hg w23 hbox hb; have BK619 := As (hbox); have GW619 := As (gS hg (below_size (kB3 HB.out GE592.out GE593.out GE605.out))); have GE619 := As (gS hg (below_size (kB3 HB.out GE592.out GE593.out GE605.out))); replace HB := As (below_step (kB3 HB.out GE592.out GE593.out GE605.out) hb); have NB592_619 := As (gN hg (blk_lt (kb BK592.out))); have NB619_592 := As (gM hg (blk_lt (kb BK592.out))); replace BK592 := As (blk_below (kb BK592.out) hb); have NB593_619 := As (gN hg (blk_lt (kb BK593.out))); have NB619_593 := As (gM hg (blk_lt (kb BK593.out))); replace BK593 := As (blk_below (kb BK593.out) hb); have NB605_619 := As (gN hg (blk_lt (kb BK605.out))); have NB619_605 := As (gM hg (blk_lt (kb BK605.out))); replace BK605 := As (blk_below (kb BK605.out) hb); clear hb hbox hg) | ((with_reducible refine gate_store (t := 30) (p := 13) rfl ?_); refine store_rowev_9 gb619 (.bool t609) (.int .u64 t610) (.int .u64 t611) (.bool t612) (.int .u64 t613) (.int .u64 t614) (.int .i64 t615) (.int .i64 t616) (.string t617) rfl (t := 30) (p := 13) (v := _) rfl rfl rfl rfl (t' := 30) (kb BK619.out) (by rfl) (by kernel_rfl) (by rfl) ?_))
  (try simp only [Act.put, sA, sZ, sS])
  go_cut [60] (fun v60 wc => ∃ (kq : Nat) (x60_13 : Bool), v60 = .bool x60_13 ∧ Aside0 (intrusionlaw17_TunnelNests.j0 kq a3 t607 x60_13 d0 d1 d2 d3 d4 d5 = some r) ∧ Aside0 (kq ≤ k) ∧ Aside0 (wc.heap[gb592]? = some (.cells #[.bool b0, .int .u64 b1, .int .u64 b2, .bool b3, .int .u64 b4, .int .u64 b5] 26 (0, 0))) ∧ Aside0 (wc.heap[gb593]? = some (.cells #[.bool d0, .int .u64 d1, .int .u64 d2, .bool d3, .int .u64 d4, .int .u64 d5] 26 (0, 0))) ∧ Aside0 (wc.heap[gb605]? = some (.cells #[.bool t595, .int .u64 t596, .int .u64 t597, .bool t598, .int .u64 t599, .int .u64 t600, .int .i64 t601, .int .i64 t602, .string t603] 30 (0, 0))) ∧ Aside0 (wc.heap[gb619]? = some (.cells #[.bool t609, .int .u64 t610, .int .u64 t611, .bool t612, .int .u64 t613, .int .u64 t614, .int .i64 t615, .int .i64 t616, .string t617] 30 (0, 0))) ∧ Aside0 (Below w.heap.size w wc))
  case first =>
   have H := HC14.out
   clear HC14
   by_cases c24 : t608 = 0
   ·rw [if_pos c24] at H
    have c24b0 : (t608 == 0) = true := beq_iff_eq.mpr c24
    have c24b1 : (t608 != 0) = false := bne_eq_false_iff_eq.mpr c24
    clear c24
    (first | rw [c24b0] | (simp only [i64_w, i32_w]; rw [c24b0]) | skip)
    by_cases c25 : t618 = true
    ·subst c25
     rw [if_pos rfl] at H
     have H' := As H
     clear H
     go_wp2_with (first | ((with_reducible refine gate_dst (N := 57) rfl ?_); (try (refine gate_guard (by rfl) ?_; dsimp only)); refine wpList_load_row ?hgd 30 _ rfl gb605 rfl 30 #[.bool t595, .int .u64 t596, .int .u64 t597, .bool t598, .int .u64 t599, .int .u64 t600, .int .i64 t601, .int .i64 t602, .string t603] (0, 0) _ (by refine kb ?_; (iterate 9 (refine blk_far ?_ NB605_619.out _; refine kb ?_)); exact BK605.out) Tryd.underlying30 rfl (by kernel_rfl) ?_; (case hgd => rfl)) | ((with_reducible refine gate_dst (N := 58) rfl ?_); (try (refine gate_guard (by rfl) ?_; dsimp only)); refine wpList_load_row ?hgd 30 _ rfl gb619 rfl 30 #[.bool t609, .int .u64 t610, .int .u64 t611, .bool t612, .int .u64 t613, .int .u64 t614, .int .i64 t615, .int .i64 t616, .string t617] (0, 0) _ (by refine kb ?_; exact blk_all_9 (kb BK619.out) (by rfl)) Tryd.underlying30 rfl (by kernel_rfl) ?_; (case hgd => rfl)))
     go_meet
     case rel => exact ⟨_, (((!(t595 == t609) || (!(t596 == t610) || (!(t597 == t611)))) || ((!(t598 == t612) || (!(t599 == t613) || (!(t600 == t614)))) || (!(t601 == t615) || (!(t602 == t616) || (!(t603.toList == t617.toList))))))), kS, H', ⟨by first | omega | exact Nat.le_refl _⟩, ⟨by refine kb ?_; (iterate 9 (refine blk_far ?_ NB592_619.out _; refine kb ?_)); exact BK592.out⟩, ⟨by refine kb ?_; (iterate 9 (refine blk_far ?_ NB593_619.out _; refine kb ?_)); exact BK593.out⟩, ⟨by refine kb ?_; (iterate 9 (refine blk_far ?_ NB605_619.out _; refine kb ?_)); exact BK605.out⟩, ⟨by refine kb ?_; exact blk_all_9 (kb BK619.out) (by rfl)⟩, ⟨by repeat (first | (with_reducible first | exact HB.out | apply below_alloc | apply pw_below_drewN | apply below_drew1 | refine below_set ?_ GE592.out | refine below_set ?_ GE593.out | refine below_set ?_ GE605.out | refine below_set ?_ GE619.out) | exact HB.out)⟩⟩
    replace c25 := Bool.eq_false_iff.mpr c25
    subst c25
    rw [if_neg (show ¬ (false = true) by decide)] at H
    have H' := As H
    clear H
    go_wp2
    go_meet
    case rel => exact ⟨_, (true), kS, H', ⟨by first | omega | exact Nat.le_refl _⟩, ⟨by refine kb ?_; (iterate 9 (refine blk_far ?_ NB592_619.out _; refine kb ?_)); exact BK592.out⟩, ⟨by refine kb ?_; (iterate 9 (refine blk_far ?_ NB593_619.out _; refine kb ?_)); exact BK593.out⟩, ⟨by refine kb ?_; (iterate 9 (refine blk_far ?_ NB605_619.out _; refine kb ?_)); exact BK605.out⟩, ⟨by refine kb ?_; exact blk_all_9 (kb BK619.out) (by rfl)⟩, ⟨by repeat (first | (with_reducible first | exact HB.out | apply below_alloc | apply pw_below_drewN | apply below_drew1 | refine below_set ?_ GE592.out | refine below_set ?_ GE593.out | refine below_set ?_ GE605.out | refine below_set ?_ GE619.out) | exact HB.out)⟩⟩
   rw [if_neg c24] at H
   have c24b0 : (t608 == 0) = false := beq_eq_false_iff_ne.mpr c24
   have c24b1 : (t608 != 0) = true := bne_iff_ne.mpr c24
   (first | rw [c24b0] | (simp only [i64_w, i32_w]; rw [c24b0]) | skip)
   have H' := As H
   clear H
   go_wp2
   go_meet
   case rel => exact ⟨_, (true), kS, H', ⟨by first | omega | exact Nat.le_refl _⟩, ⟨by refine kb ?_; (iterate 9 (refine blk_far ?_ NB592_619.out _; refine kb ?_)); exact BK592.out⟩, ⟨by refine kb ?_; (iterate 9 (refine blk_far ?_ NB593_619.out _; refine kb ?_)); exact BK593.out⟩, ⟨by refine kb ?_; (iterate 9 (refine blk_far ?_ NB605_619.out _; refine kb ?_)); exact BK605.out⟩, ⟨by refine kb ?_; exact blk_all_9 (kb BK619.out) (by rfl)⟩, ⟨by repeat (first | (with_reducible first | exact HB.out | apply below_alloc | apply pw_below_drewN | apply below_drew1 | refine below_set ?_ GE592.out | refine below_set ?_ GE593.out | refine below_set ?_ GE605.out | refine below_set ?_ GE619.out) | exact HB.out)⟩⟩
  clear HC14
  try clear c5
  try clear c5b0
  try clear c5b1
  try clear c11
  try clear c11b0
  try clear c11b1
  try clear hcz18_0
  try clear hfz18_0
  obtain ⟨kq, x60_13, rfl, HA, HJ13, BK592, BK593, BK605, BK619, HB⟩ := hcut
  cases kq with
  | zero => exact absurd HA.out (by simp [intrusionlaw17_TunnelNests.j0])
  | succ kj13 =>
   have H := HA.out
   clear HA
   simp only [intrusionlaw17_TunnelNests.j0] at H
   by_cases c26 : x60_13 = true
   ·subst c26
    rw [if_pos rfl] at H
    exact absurd H (by simp)
   replace c26 := Bool.eq_false_iff.mpr c26
   subst c26
   rw [if_neg (show ¬ (false = true) by decide)] at H
   replace H := bS H
   obtain ⟨⟨t620, t621, t622, t623, t624, t625, t626, t627, t628, t629⟩, A27, H⟩ := H
   try dsimp -simprocs only at H
   by_cases c28 : t629 = 0
   ·rw [if_pos c28] at H
    have c28b0 : (t629 == 0) = true := beq_iff_eq.mpr c28
    have c28b1 : (t629 != 0) = false := bne_eq_false_iff_eq.mpr c28
    clear c28
    replace H := bS H
    obtain ⟨⟨t632, t633, t634⟩, A29, H⟩ := H
    try dsimp -simprocs only at H
    replace H := bS H
    obtain ⟨⟨t635, t636, t637, t638, t639, t640, t641, t642, t643, t644⟩, A30, H⟩ := H
    try dsimp -simprocs only at H
    replace H := iS H
    obtain ⟨c31, H⟩ := H
    have c31b0 : (t634 == 0) = true := beq_iff_eq.mpr c31
    have c31b1 : (t634 != 0) = false := bne_eq_false_iff_eq.mpr c31
    clear c31
    replace H := iS H
    obtain ⟨c32, H⟩ := H
    have c32b0 : (t633.toList == t607.toList) = true := beq_iff_eq.mpr c32
    have c32b1 : (t633.toList != t607.toList) = false := bne_eq_false_iff_eq.mpr c32
    clear c32
    by_cases c33 : t644 = true
    ·subst c33
     rw [if_pos rfl] at H
     replace H := bS H
     obtain ⟨t646, A34, H⟩ := H
     by_cases c35 : t646 = true
     ·subst c35
      rw [if_pos rfl] at H
      replace H := bS H
      obtain ⟨t647, A36, H⟩ := H
      obtain rfl := Option.some.inj H
      have hnb37 := NB593_592.out
      have hnc37 := NB592_593.out
      have hnb38 := NB593_605.out
      have hnc38 := NB605_593.out
      have hnb39 := NB593_619.out
      have hnc39 := NB619_593.out
      have hcz40_0 := cells_6 BK593.out
      have hfz40_0 := fun j_ => blk_frozen BK593.out j_
      go_wp2_with (first | ((with_reducible refine gate_callee (f := 17) rfl ?_); refine goesL_ (some 67) rfl rfl Tryd.func17 (by kernel_rfl) rfl #[.agg #[.bool d0, .int .u64 d1, .int .u64 d2], .agg #[.bool d3, .int .u64 d4, .int .u64 d5], .string t607] rfl kA ?_; (with_reducible refine (tunnel_WrapIp.calls kj13 d0 d1 d2 d3 d4 d5 t607 t620 t621 t622 t623 t624 t625 t626 t627 t628 t629 _ A27.out).mono ?_); rintro e w41 ⟨rfl, hb⟩; refine ⟨_, rfl, ?_⟩; replace BK592 := As (blk_below (kb BK592.out) hb); replace BK593 := As (blk_below (kb BK593.out) hb); replace BK605 := As (blk_below (kb BK605.out) hb); replace BK619 := As (blk_below (kb BK619.out) hb); replace HB := As (below_step (by repeat (first | (with_reducible first | exact HB.out | apply below_alloc | apply pw_below_drewN | apply below_drew1 | refine below_set ?_ GE592.out | refine below_set ?_ GE593.out | refine below_set ?_ GE605.out | refine below_set ?_ GE619.out) | exact HB.out)) hb); (try clear hb)) | ((with_reducible refine gate_dst (N := 15) rfl ?_); refine box_event rfl (N := 15) rfl (cs := #[.bool false, .int .u64 0, .int .u64 0, .bool false, .int .u64 0, .int .u64 0, .int .i64 0, .int .i64 0, .string (⟨#[]⟩ : ByteArray)]) (t := 30) kG ?_; intro gb630 hg w42 hbox hb; have BK630 := As (hbox); have GW630 := As ((by rw [hg]; exact (below_size (by repeat (first | (with_reducible first | exact HB.out | apply below_alloc | apply pw_below_drewN | apply below_drew1 | refine below_set ?_ GE592.out | refine below_set ?_ GE593.out | refine below_set ?_ GE605.out | refine below_set ?_ GE619.out) | exact HB.out))) : w.heap.size ≤ gb630)); have GE630 := As ((by rw [hg]; exact (below_size (by repeat (first | (with_reducible first | exact HB.out | apply below_alloc | apply pw_below_drewN | apply below_drew1 | refine below_set ?_ GE592.out | refine below_set ?_ GE593.out | refine below_set ?_ GE605.out | refine below_set ?_ GE619.out) | exact HB.out))) : w.heap.size ≤ gb630)); replace HB := As (below_step (by repeat (first | (with_reducible first | exact HB.out | apply below_alloc | apply pw_below_drewN | apply below_drew1 | refine below_set ?_ GE592.out | refine below_set ?_ GE593.out | refine below_set ?_ GE605.out | refine below_set ?_ GE619.out) | exact HB.out)) hb); have NB592_630 := As (gN hg (blk_lt (kb BK592.out))); have NB630_592 := As (gM hg (blk_lt (kb BK592.out))); replace BK592 := As (blk_below (kb BK592.out) hb); have NB593_630 := As (gN hg (blk_lt (kb BK593.out))); have NB630_593 := As (gM hg (blk_lt (kb BK593.out))); replace BK593 := As (blk_below (kb BK593.out) hb); have NB605_630 := As (gN hg (blk_lt (kb BK605.out))); have NB630_605 := As (gM hg (blk_lt (kb BK605.out))); replace BK605 := As (blk_below (kb BK605.out) hb); have NB619_630 := As (gN hg (blk_lt (kb BK619.out))); have NB630_619 := As (gM hg (blk_lt (kb BK619.out))); replace BK619 := As (blk_below (kb BK619.out) hb); clear hb hbox hg) | ((with_reducible refine gate_store (t := 30) (p := 15) rfl ?_); refine store_rowev_9 gb630 (.bool t620) (.int .u64 t621) (.int .u64 t622) (.bool t623) (.int .u64 t624) (.int .u64 t625) (.int .i64 t626) (.int .i64 t627) (.string t628) rfl (t := 30) (p := 15) (v := _) rfl rfl rfl rfl (t' := 30) (kb BK630.out) (by rfl) (by kernel_rfl) (by rfl) ?_) | ((with_reducible refine gate_dst (N := 74) rfl ?_); (try (refine gate_guard (by rfl) ?_; dsimp only)); refine wpList_load_row ?hgd 30 _ rfl gb630 rfl 30 #[.bool t620, .int .u64 t621, .int .u64 t622, .bool t623, .int .u64 t624, .int .u64 t625, .int .i64 t626, .int .i64 t627, .string t628] (0, 0) _ (by refine kb ?_; exact blk_all_9 (kb BK630.out) (by rfl)) Tryd.underlying30 rfl (by kernel_rfl) ?_; (case hgd => rfl)) | ((with_reducible refine gate_callee (f := 18) rfl ?_); refine goesL_ (some 75) rfl rfl Tryd.func18 (by kernel_rfl) rfl #[.agg #[.bool t620, .int .u64 t621, .int .u64 t622, .bool t623, .int .u64 t624, .int .u64 t625, .int .i64 t626, .int .i64 t627, .string t628]] rfl kA ?_; (with_reducible refine (tunnel_Inner.calls kj13 t620 t621 t622 t623 t624 t625 t626 t627 t628 t632 t633 t634 _ ?side1 A29.out).mono ?_); (case side1 => exact laid_below HLD.out (by repeat (first | (with_reducible first | exact HB.out | apply below_alloc | apply pw_below_drewN | apply below_drew1 | refine below_set ?_ GE592.out | refine below_set ?_ GE593.out | refine below_set ?_ GE605.out | refine below_set ?_ GE619.out | refine below_set ?_ GE630.out) | exact HB.out))); rintro e w43 ⟨rfl, hb⟩; refine ⟨_, rfl, ?_⟩; replace BK592 := As (blk_below (g := gb592) (o := .cells #[.bool b0, .int .u64 b1, .int .u64 b2, .bool b3, .int .u64 b4, .int .u64 b5] 26 (0, 0)) (by refine kb ?_; (iterate 9 (refine blk_far ?_ NB592_630.out _; refine kb ?_)); exact BK592.out) hb); replace BK593 := As (blk_below (g := gb593) (o := .cells #[.bool d0, .int .u64 d1, .int .u64 d2, .bool d3, .int .u64 d4, .int .u64 d5] 26 (0, 0)) (by refine kb ?_; (iterate 9 (refine blk_far ?_ NB593_630.out _; refine kb ?_)); exact BK593.out) hb); replace BK605 := As (blk_below (g := gb605) (o := .cells #[.bool t595, .int .u64 t596, .int .u64 t597, .bool t598, .int .u64 t599, .int .u64 t600, .int .i64 t601, .int .i64 t602, .string t603] 30 (0, 0)) (by refine kb ?_; (iterate 9 (refine blk_far ?_ NB605_630.out _; refine kb ?_)); exact BK605.out) hb); replace BK619 := As (blk_below (g := gb619) (o := .cells #[.bool t609, .int .u64 t610, .int .u64 t611, .bool t612, .int .u64 t613, .int .u64 t614, .int .i64 t615, .int .i64 t616, .string t617] 30 (0, 0)) (by refine kb ?_; (iterate 9 (refine blk_far ?_ NB619_630.out _; refine kb ?_)); exact BK619.out) hb); replace BK630 := As (blk_below (g := gb630) (o := .cells #[.bool t620, .int .u64 t621, .int .u64 t622, .bool t623, .int .u64 t624, .int .u64 t625, .int .i64 t626, .int .i64 t627, .string t628] 30 (0, 0)) (by refine kb ?_; exact blk_all_9 (kb BK630.out) (by rfl)) hb); replace HB := As (below_step (by repeat (first | (with_reducible first | exact HB.out | apply below_alloc | apply pw_below_drewN | apply below_drew1 | refine below_set ?_ GE592.out | refine below_set ?_ GE593.out | refine below_set ?_ GE605.out | refine below_set ?_ GE619.out | refine below_set ?_ GE630.out) | exact HB.out)) hb); (try clear hb)) | ((with_reducible refine gate_callee (f := 16) rfl ?_); refine goesL_ (some 81) rfl rfl Tryd.func16 (by kernel_rfl) rfl #[.string t633] rfl kA ?_; (with_reducible refine (intrusionlaw17_taken.calls kj13 t633 t635 t636 t637 t638 t639 t640 t641 t642 t643 true _ A30.out).mono ?_); rintro e w44 ⟨rfl, hb⟩; refine ⟨_, rfl, ?_⟩; replace BK592 := As (blk_below (kb BK592.out) hb); replace BK593 := As (blk_below (kb BK593.out) hb); replace BK605 := As (blk_below (kb BK605.out) hb); replace BK619 := As (blk_below (kb BK619.out) hb); replace BK630 := As (blk_below (kb BK630.out) hb); replace HB := As (below_step (by repeat (first | (with_reducible first | exact HB.out | apply below_alloc | apply pw_below_drewN | apply below_drew1 | refine below_set ?_ GE592.out | refine below_set ?_ GE593.out | refine below_set ?_ GE605.out | refine below_set ?_ GE619.out | refine below_set ?_ GE630.out) | exact HB.out)) hb); (try clear hb)) | ((with_reducible refine gate_dst (N := 20) rfl ?_); refine box_event rfl (N := 20) rfl (cs := #[.bool false, .int .u64 0, .int .u64 0, .bool false, .int .u64 0, .int .u64 0, .int .i64 0, .int .i64 0, .string (⟨#[]⟩ : ByteArray)]) (t := 30) kG ?_; intro gb645 hg w45 hbox hb; have BK645 := As (hbox); have GW645 := As ((by rw [hg]; exact (below_size (by repeat (first | (with_reducible first | exact HB.out | apply below_alloc | apply pw_below_drewN | apply below_drew1 | refine below_set ?_ GE592.out | refine below_set ?_ GE593.out | refine below_set ?_ GE605.out | refine below_set ?_ GE619.out | refine below_set ?_ GE630.out) | exact HB.out))) : w.heap.size ≤ gb645)); have GE645 := As ((by rw [hg]; exact (below_size (by repeat (first | (with_reducible first | exact HB.out | apply below_alloc | apply pw_below_drewN | apply below_drew1 | refine below_set ?_ GE592.out | refine below_set ?_ GE593.out | refine below_set ?_ GE605.out | refine below_set ?_ GE619.out | refine below_set ?_ GE630.out) | exact HB.out))) : w.heap.size ≤ gb645)); replace HB := As (below_step (by repeat (first | (with_reducible first | exact HB.out | apply below_alloc | apply pw_below_drewN | apply below_drew1 | refine below_set ?_ GE592.out | refine below_set ?_ GE593.out | refine below_set ?_ GE605.out | refine below_set ?_ GE619.out | refine below_set ?_ GE630.out) | exact HB.out)) hb); have NB592_645 := As (gN hg (blk_lt (kb BK592.out))); have NB645_592 := As (gM hg (blk_lt (kb BK592.out))); replace BK592 := As (blk_below (kb BK592.out) hb); have NB593_645 := As (gN hg (blk_lt (kb BK593.out))); have NB645_593 := As (gM hg (blk_lt (kb BK593.out))); replace BK593 := As (blk_below (kb BK593.out) hb); have NB605_645 := As (gN hg (blk_lt (kb BK605.out))); have NB645_605 := As (gM hg (blk_lt (kb BK605.out))); replace BK605 := As (blk_below (kb BK605.out) hb); have NB619_645 := As (gN hg (blk_lt (kb BK619.out))); have NB645_619 := As (gM hg (blk_lt (kb BK619.out))); replace BK619 := As (blk_below (kb BK619.out) hb); have NB630_645 := As (gN hg (blk_lt (kb BK630.out))); have NB645_630 := As (gM hg (blk_lt (kb BK630.out))); replace BK630 := As (blk_below (kb BK630.out) hb); clear hb hbox hg) | ((with_reducible refine gate_store (t := 30) (p := 20) rfl ?_); refine store_rowev_9 gb645 (.bool t635) (.int .u64 t636) (.int .u64 t637) (.bool t638) (.int .u64 t639) (.int .u64 t640) (.int .i64 t641) (.int .i64 t642) (.string t643) rfl (t := 30) (p := 20) (v := _) rfl rfl rfl rfl (t' := 30) (kb BK645.out) (by rfl) (by kernel_rfl) (by rfl) ?_) | ((with_reducible refine gate_dst (N := 95) rfl ?_); (try (refine gate_guard (by rfl) ?_; dsimp only)); refine wpList_load_row ?hgd 30 _ rfl gb645 rfl 30 #[.bool t635, .int .u64 t636, .int .u64 t637, .bool t638, .int .u64 t639, .int .u64 t640, .int .i64 t641, .int .i64 t642, .string t643] (0, 0) _ (by refine kb ?_; exact blk_all_9 (kb BK645.out) (by rfl)) Tryd.underlying30 rfl (by kernel_rfl) ?_; (case hgd => rfl)) | (go_at_call 19; (with_reducible refine (intrusionlaw17_unwraps.calls kj13 t635 t636 t637 t638 t639 t640 t641 t642 t643 3 a3 true _ ?side1 A34.out).mono ?_); (case side1 => exact laid_below HLD.out (by repeat (first | (with_reducible first | exact HB.out | apply below_alloc | apply pw_below_drewN | apply below_drew1 | refine below_set ?_ GE592.out | refine below_set ?_ GE593.out | refine below_set ?_ GE605.out | refine below_set ?_ GE619.out | refine below_set ?_ GE630.out | refine below_set ?_ GE645.out) | exact HB.out))); rintro e w46 ⟨rfl, hb⟩; replace BK592 := As (blk_below (g := gb592) (o := .cells #[.bool b0, .int .u64 b1, .int .u64 b2, .bool b3, .int .u64 b4, .int .u64 b5] 26 (0, 0)) (by refine kb ?_; (iterate 9 (refine blk_far ?_ NB592_645.out _; refine kb ?_)); exact BK592.out) hb); replace BK593 := As (blk_below (g := gb593) (o := .cells #[.bool d0, .int .u64 d1, .int .u64 d2, .bool d3, .int .u64 d4, .int .u64 d5] 26 (0, 0)) (by refine kb ?_; (iterate 9 (refine blk_far ?_ NB593_645.out _; refine kb ?_)); exact BK593.out) hb); replace BK605 := As (blk_below (g := gb605) (o := .cells #[.bool t595, .int .u64 t596, .int .u64 t597, .bool t598, .int .u64 t599, .int .u64 t600, .int .i64 t601, .int .i64 t602, .string t603] 30 (0, 0)) (by refine kb ?_; (iterate 9 (refine blk_far ?_ NB605_645.out _; refine kb ?_)); exact BK605.out) hb); replace BK619 := As (blk_below (g := gb619) (o := .cells #[.bool t609, .int .u64 t610, .int .u64 t611, .bool t612, .int .u64 t613, .int .u64 t614, .int .i64 t615, .int .i64 t616, .string t617] 30 (0, 0)) (by refine kb ?_; (iterate 9 (refine blk_far ?_ NB619_645.out _; refine kb ?_)); exact BK619.out) hb); replace BK630 := As (blk_below (g := gb630) (o := .cells #[.bool t620, .int .u64 t621, .int .u64 t622, .bool t623, .int .u64 t624, .int .u64 t625, .int .i64 t626, .int .i64 t627, .string t628] 30 (0, 0)) (by refine kb ?_; (iterate 9 (refine blk_far ?_ NB630_645.out _; refine kb ?_)); exact BK630.out) hb); replace BK645 := As (blk_below (g := gb645) (o := .cells #[.bool t635, .int .u64 t636, .int .u64 t637, .bool t638, .int .u64 t639, .int .u64 t640, .int .i64 t641, .int .i64 t642, .string t643] 30 (0, 0)) (by refine kb ?_; exact blk_all_9 (kb BK645.out) (by rfl)) hb); replace HB := As (below_step (by repeat (first | (with_reducible first | exact HB.out | apply below_alloc | apply pw_below_drewN | apply below_drew1 | refine below_set ?_ GE592.out | refine below_set ?_ GE593.out | refine below_set ?_ GE605.out | refine below_set ?_ GE619.out | refine below_set ?_ GE630.out | refine below_set ?_ GE645.out) | exact HB.out)) hb); (try clear hb)) | (go_at_call 11; (with_reducible refine (intrusionlaw17_awake.calls kj13  t647 _ ?side1 A36.out).mono ?_); (case side1 => exact laid_below HLD.out (by repeat (first | (with_reducible first | exact HB.out | apply below_alloc | apply pw_below_drewN | apply below_drew1 | refine below_set ?_ GE592.out | refine below_set ?_ GE593.out | refine below_set ?_ GE605.out | refine below_set ?_ GE619.out | refine below_set ?_ GE630.out | refine below_set ?_ GE645.out) | exact HB.out))); rintro e w47 ⟨rfl, hb⟩; replace BK592 := As (blk_below (kb BK592.out) hb); replace BK593 := As (blk_below (kb BK593.out) hb); replace BK605 := As (blk_below (kb BK605.out) hb); replace BK619 := As (blk_below (kb BK619.out) hb); replace BK630 := As (blk_below (kb BK630.out) hb); replace BK645 := As (blk_below (kb BK645.out) hb); replace HB := As (below_step (by repeat (first | (with_reducible first | exact HB.out | apply below_alloc | apply pw_below_drewN | apply below_drew1 | refine below_set ?_ GE592.out | refine below_set ?_ GE593.out | refine below_set ?_ GE605.out | refine below_set ?_ GE619.out | refine below_set ?_ GE630.out | refine below_set ?_ GE645.out) | exact HB.out)) hb); (try clear hb)))
      go_ret
      exact ⟨kE, by repeat (first | (with_reducible first | exact HB.out | apply below_alloc | apply pw_below_drewN | apply below_drew1 | refine below_set ?_ GE592.out | refine below_set ?_ GE593.out | refine below_set ?_ GE605.out | refine below_set ?_ GE619.out | refine below_set ?_ GE630.out | refine below_set ?_ GE645.out) | exact HB.out)⟩
     replace c35 := Bool.eq_false_iff.mpr c35
     subst c35
     rw [if_neg (show ¬ (false = true) by decide)] at H
     exact absurd H (by simp)
    replace c33 := Bool.eq_false_iff.mpr c33
    subst c33
    rw [if_neg (show ¬ (false = true) by decide)] at H
    exact absurd H (by simp)
   rw [if_neg c28] at H
   have c28b0 : (t629 == 0) = false := beq_eq_false_iff_ne.mpr c28
   have c28b1 : (t629 != 0) = true := bne_iff_ne.mpr c28
   replace H := bS H
   obtain ⟨t631, A48, H⟩ := H
   obtain rfl := Option.some.inj H
   have hnb49 := NB593_592.out
   have hnc49 := NB592_593.out
   have hnb50 := NB593_605.out
   have hnc50 := NB605_593.out
   have hnb51 := NB593_619.out
   have hnc51 := NB619_593.out
   have hcz52_0 := cells_6 BK593.out
   have hfz52_0 := fun j_ => blk_frozen BK593.out j_
   go_wp2_with (first | ((with_reducible refine gate_callee (f := 17) rfl ?_); refine goesL_ (some 67) rfl rfl Tryd.func17 (by kernel_rfl) rfl #[.agg #[.bool d0, .int .u64 d1, .int .u64 d2], .agg #[.bool d3, .int .u64 d4, .int .u64 d5], .string t607] rfl kA ?_; (with_reducible refine (tunnel_WrapIp.calls kj13 d0 d1 d2 d3 d4 d5 t607 t620 t621 t622 t623 t624 t625 t626 t627 t628 t629 _ A27.out).mono ?_); rintro e w53 ⟨rfl, hb⟩; refine ⟨_, rfl, ?_⟩; replace BK592 := As (blk_below (kb BK592.out) hb); replace BK593 := As (blk_below (kb BK593.out) hb); replace BK605 := As (blk_below (kb BK605.out) hb); replace BK619 := As (blk_below (kb BK619.out) hb); replace HB := As (below_step (by repeat (first | (with_reducible first | exact HB.out | apply below_alloc | apply pw_below_drewN | apply below_drew1 | refine below_set ?_ GE592.out | refine below_set ?_ GE593.out | refine below_set ?_ GE605.out | refine below_set ?_ GE619.out) | exact HB.out)) hb); (try clear hb)) | ((with_reducible refine gate_dst (N := 15) rfl ?_); refine box_event rfl (N := 15) rfl (cs := #[.bool false, .int .u64 0, .int .u64 0, .bool false, .int .u64 0, .int .u64 0, .int .i64 0, .int .i64 0, .string (⟨#[]⟩ : ByteArray)]) (t := 30) kG ?_; intro gb630 hg w54 hbox hb; have BK630 := As (hbox); have GW630 := As ((by rw [hg]; exact (below_size (by repeat (first | (with_reducible first | exact HB.out | apply below_alloc | apply pw_below_drewN | apply below_drew1 | refine below_set ?_ GE592.out | refine below_set ?_ GE593.out | refine below_set ?_ GE605.out | refine below_set ?_ GE619.out) | exact HB.out))) : w.heap.size ≤ gb630)); have GE630 := As ((by rw [hg]; exact (below_size (by repeat (first | (with_reducible first | exact HB.out | apply below_alloc | apply pw_below_drewN | apply below_drew1 | refine below_set ?_ GE592.out | refine below_set ?_ GE593.out | refine below_set ?_ GE605.out | refine below_set ?_ GE619.out) | exact HB.out))) : w.heap.size ≤ gb630)); replace HB := As (below_step (by repeat (first | (with_reducible first | exact HB.out | apply below_alloc | apply pw_below_drewN | apply below_drew1 | refine below_set ?_ GE592.out | refine below_set ?_ GE593.out | refine below_set ?_ GE605.out | refine below_set ?_ GE619.out) | exact HB.out)) hb); have NB592_630 := As (gN hg (blk_lt (kb BK592.out))); have NB630_592 := As (gM hg (blk_lt (kb BK592.out))); replace BK592 := As (blk_below (kb BK592.out) hb); have NB593_630 := As (gN hg (blk_lt (kb BK593.out))); have NB630_593 := As (gM hg (blk_lt (kb BK593.out))); replace BK593 := As (blk_below (kb BK593.out) hb); have NB605_630 := As (gN hg (blk_lt (kb BK605.out))); have NB630_605 := As (gM hg (blk_lt (kb BK605.out))); replace BK605 := As (blk_below (kb BK605.out) hb); have NB619_630 := As (gN hg (blk_lt (kb BK619.out))); have NB630_619 := As (gM hg (blk_lt (kb BK619.out))); replace BK619 := As (blk_below (kb BK619.out) hb); clear hb hbox hg) | ((with_reducible refine gate_store (t := 30) (p := 15) rfl ?_); refine store_rowev_9 gb630 (.bool t620) (.int .u64 t621) (.int .u64 t622) (.bool t623) (.int .u64 t624) (.int .u64 t625) (.int .i64 t626) (.int .i64 t627) (.string t628) rfl (t := 30) (p := 15) (v := _) rfl rfl rfl rfl (t' := 30) (kb BK630.out) (by rfl) (by kernel_rfl) (by rfl) ?_) | ((with_reducible refine gate_callee (f := 11) rfl ?_); refine goesL_ (some 72) rfl rfl Tryd.func11 (by kernel_rfl) rfl #[] rfl kA ?_; (with_reducible refine (intrusionlaw17_awake.calls kj13  t631 _ ?side1 A48.out).mono ?_); (case side1 => exact laid_below HLD.out (by repeat (first | (with_reducible first | exact HB.out | apply below_alloc | apply pw_below_drewN | apply below_drew1 | refine below_set ?_ GE592.out | refine below_set ?_ GE593.out | refine below_set ?_ GE605.out | refine below_set ?_ GE619.out | refine below_set ?_ GE630.out) | exact HB.out))); rintro e w55 ⟨rfl, hb⟩; refine ⟨_, rfl, ?_⟩; replace BK592 := As (blk_below (g := gb592) (o := .cells #[.bool b0, .int .u64 b1, .int .u64 b2, .bool b3, .int .u64 b4, .int .u64 b5] 26 (0, 0)) (by refine kb ?_; (iterate 9 (refine blk_far ?_ NB592_630.out _; refine kb ?_)); exact BK592.out) hb); replace BK593 := As (blk_below (g := gb593) (o := .cells #[.bool d0, .int .u64 d1, .int .u64 d2, .bool d3, .int .u64 d4, .int .u64 d5] 26 (0, 0)) (by refine kb ?_; (iterate 9 (refine blk_far ?_ NB593_630.out _; refine kb ?_)); exact BK593.out) hb); replace BK605 := As (blk_below (g := gb605) (o := .cells #[.bool t595, .int .u64 t596, .int .u64 t597, .bool t598, .int .u64 t599, .int .u64 t600, .int .i64 t601, .int .i64 t602, .string t603] 30 (0, 0)) (by refine kb ?_; (iterate 9 (refine blk_far ?_ NB605_630.out _; refine kb ?_)); exact BK605.out) hb); replace BK619 := As (blk_below (g := gb619) (o := .cells #[.bool t609, .int .u64 t610, .int .u64 t611, .bool t612, .int .u64 t613, .int .u64 t614, .int .i64 t615, .int .i64 t616, .string t617] 30 (0, 0)) (by refine kb ?_; (iterate 9 (refine blk_far ?_ NB619_630.out _; refine kb ?_)); exact BK619.out) hb); replace BK630 := As (blk_below (g := gb630) (o := .cells #[.bool t620, .int .u64 t621, .int .u64 t622, .bool t623, .int .u64 t624, .int .u64 t625, .int .i64 t626, .int .i64 t627, .string t628] 30 (0, 0)) (by refine kb ?_; exact blk_all_9 (kb BK630.out) (by rfl)) hb); replace HB := As (below_step (by repeat (first | (with_reducible first | exact HB.out | apply below_alloc | apply pw_below_drewN | apply below_drew1 | refine below_set ?_ GE592.out | refine below_set ?_ GE593.out | refine below_set ?_ GE605.out | refine below_set ?_ GE619.out | refine below_set ?_ GE630.out) | exact HB.out)) hb); (try clear hb)))
   go_ret
   exact ⟨kE, by repeat (first | (with_reducible first | exact HB.out | apply below_alloc | apply pw_below_drewN | apply below_drew1 | refine below_set ?_ GE592.out | refine below_set ?_ GE593.out | refine below_set ?_ GE605.out | refine below_set ?_ GE619.out | refine below_set ?_ GE630.out) | exact HB.out)⟩
 rw [if_neg c11] at H
 have c11b0 : (t604 == 0) = false := beq_eq_false_iff_ne.mpr c11
 have c11b1 : (t604 != 0) = true := bne_iff_ne.mpr c11
 replace H := bS H
 obtain ⟨t606, A56, H⟩ := H
 obtain rfl := Option.some.inj H
 go_enter Tryd.func4, Tryd.ntmps4
 go_wp2_with (first | ((with_reducible refine gate_dst (N := 4) rfl ?_); refine box_event rfl (N := 4) rfl (cs := #[.bool b0, .int .u64 b1, .int .u64 b2, .bool b3, .int .u64 b4, .int .u64 b5]) (t := 26) kG ?_; intro gb592 hg w57 hbox hb; have BK592 := As (hbox); have GW592 := As (gS hg (below_size (kB HB.out))); have GE592 := As (gS hg (below_size (kB HB.out))); replace HB := As (below_step (kB HB.out) hb); clear hb hbox hg) | ((with_reducible refine gate_dst (N := 5) rfl ?_); refine box_event rfl (N := 5) rfl (cs := #[.bool d0, .int .u64 d1, .int .u64 d2, .bool d3, .int .u64 d4, .int .u64 d5]) (t := 26) kG ?_; intro gb593 hg w58 hbox hb; have BK593 := As (hbox); have GW593 := As (gS hg (below_size (kB1 HB.out GE592.out))); have GE593 := As (gS hg (below_size (kB1 HB.out GE592.out))); replace HB := As (below_step (kB1 HB.out GE592.out) hb); have NB592_593 := As (gN hg (blk_lt (kb BK592.out))); have NB593_592 := As (gM hg (blk_lt (kb BK592.out))); replace BK592 := As (blk_below (kb BK592.out) hb); clear hb hbox hg; have hnb59 := NB592_593.out; have hnc59 := NB593_592.out; have hcz60_0 := cells_6 BK592.out; have hfz60_0 := fun j_ => blk_frozen BK592.out j_) | ((with_reducible refine gate_callee (f := 12) rfl ?_); refine goesL_ (some 32) rfl rfl Tryd.func12 (by kernel_rfl) rfl #[.agg #[.bool b0, .int .u64 b1, .int .u64 b2], .agg #[.bool b3, .int .u64 b4, .int .u64 b5], .int .i64 3, .string a3, .int .u32 7, .bool true] rfl kA ?_; (with_reducible refine (tunnel_WrapGre.calls k b0 b1 b2 b3 b4 b5 3 a3 7 true t595 t596 t597 t598 t599 t600 t601 t602 t603 t604 _ A10.out).mono ?_); rintro e w61 ⟨rfl, hb⟩; refine ⟨_, rfl, ?_⟩; replace BK592 := As (blk_below (kb BK592.out) hb); replace BK593 := As (blk_below (kb BK593.out) hb); replace HB := As (below_step (kB2 HB.out GE592.out GE593.out) hb); (try clear hb)) | ((with_reducible refine gate_dst (N := 9) rfl ?_); refine box_event rfl (N := 9) rfl (cs := #[.bool false, .int .u64 0, .int .u64 0, .bool false, .int .u64 0, .int .u64 0, .int .i64 0, .int .i64 0, .string (⟨#[]⟩ : ByteArray)]) (t := 30) kG ?_; intro gb605 hg w62 hbox hb; have BK605 := As (hbox); have GW605 := As (gS hg (below_size (kB2 HB.out GE592.out GE593.out))); have GE605 := As (gS hg (below_size (kB2 HB.out GE592.out GE593.out))); replace HB := As (below_step (kB2 HB.out GE592.out GE593.out) hb); have NB592_605 := As (gN hg (blk_lt (kb BK592.out))); have NB605_592 := As (gM hg (blk_lt (kb BK592.out))); replace BK592 := As (blk_below (kb BK592.out) hb); have NB593_605 := As (gN hg (blk_lt (kb BK593.out))); have NB605_593 := As (gM hg (blk_lt (kb BK593.out))); replace BK593 := As (blk_below (kb BK593.out) hb); clear hb hbox hg) | ((with_reducible refine gate_store (t := 30) (p := 9) rfl ?_); refine store_rowev_9 gb605 (.bool t595) (.int .u64 t596) (.int .u64 t597) (.bool t598) (.int .u64 t599) (.int .u64 t600) (.int .i64 t601) (.int .i64 t602) (.string t603) rfl (t := 30) (p := 9) (v := _) rfl rfl rfl rfl (t' := 30) (kb BK605.out) (by rfl) (by kernel_rfl) (by rfl) ?_) | ((with_reducible refine gate_callee (f := 11) rfl ?_); refine goesL_ (some 37) rfl rfl Tryd.func11 (by kernel_rfl) rfl #[] rfl kA ?_; (with_reducible refine (intrusionlaw17_awake.calls k  t606 _ ?side1 A56.out).mono ?_); (case side1 => exact laid_below HLD.out (kB3 HB.out GE592.out GE593.out GE605.out)); rintro e w63 ⟨rfl, hb⟩; refine ⟨_, rfl, ?_⟩; replace BK592 := As (blk_below (g := gb592) (o := .cells #[.bool b0, .int .u64 b1, .int .u64 b2, .bool b3, .int .u64 b4, .int .u64 b5] 26 (0, 0)) (by refine kb ?_; (iterate 9 (refine blk_far ?_ NB592_605.out _; refine kb ?_)); exact BK592.out) hb); replace BK593 := As (blk_below (g := gb593) (o := .cells #[.bool d0, .int .u64 d1, .int .u64 d2, .bool d3, .int .u64 d4, .int .u64 d5] 26 (0, 0)) (by refine kb ?_; (iterate 9 (refine blk_far ?_ NB593_605.out _; refine kb ?_)); exact BK593.out) hb); replace BK605 := As (blk_below (g := gb605) (o := .cells #[.bool t595, .int .u64 t596, .int .u64 t597, .bool t598, .int .u64 t599, .int .u64 t600, .int .i64 t601, .int .i64 t602, .string t603] 30 (0, 0)) (by refine kb ?_; exact blk_all_9 (kb BK605.out) (by rfl)) hb); replace HB := As (below_step (kB3 HB.out GE592.out GE593.out GE605.out) hb); (try clear hb)))
 go_ret
 exact ⟨kE, by exact kB3 HB.out GE592.out GE593.out GE605.out⟩

end Go.Proofs.YtocobalkikkhlaaDoor.X
-- short
-- short2
