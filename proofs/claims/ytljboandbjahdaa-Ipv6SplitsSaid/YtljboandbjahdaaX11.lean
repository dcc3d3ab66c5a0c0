/- What the functions of the translation that this claim's statement reaches compute, each proved by its walk. Written by xprint.py, a program of this claim's author, run over the kit's printer. -/
import Derived.Test.YtljboandbjahdaaX0
namespace Go.Proofs.Ytljboandbjahdaa.X
open Go.RowKit Go.Proofs.YtljboandbjahdaaW.PrintWords Go.Proofs.YtljboandbjahdaaW.PrintLast Go.Proofs.YtljboandbjahdaaW.PrintMore
attribute [local go_sem] max2_int min2_int max_two min_two max_three min_three max_four min_four   -- for this text's walks alone
set_option linter.unusedVariables false
set_option linter.unusedSimpArgs false

/-! ### ipv6_Fragment: function 20 -/
def ipv6_Fragment.f (b0 : Int) (b1 : Int) (b2 : Int) (b3 : Int) (b4 : Bool) (b5 : Int) (b6 : Int) (b7 : Bool) (b8 : Int) (b9 : Int) (l0_10 : List (S60)) (b11 : Bool) (b12 : Int) (b13 : Int) (b14 : Bool) (b15 : ByteArray) : Option (Bool × Int × Int × Bool × Int × Int × Int × Int × Int × Int × Bool × ByteArray) := some (b4, b5, b6, b7, b8, b9, b3, b12, b2, b13, b14, b15)
set_option maxHeartbeats 8000000 in
set_option maxRecDepth 100000 in
theorem ipv6_Fragment.calls (b0 : Int) (b1 : Int) (b2 : Int) (b3 : Int) (b4 : Bool) (b5 : Int) (b6 : Int) (b7 : Bool) (b8 : Int) (b9 : Int) (A0_10 : Option Addr) (c0_10 : Nat) (l0_10 : List (S60)) (b11 : Bool) (b12 : Int) (b13 : Int) (b14 : Bool) (b15 : ByteArray) (r1 : Bool) (r2 : Int) (r3 : Int) (r4 : Bool) (r5 : Int) (r6 : Int) (r7 : Int) (r8 : Int) (r9 : Int) (r10 : Int) (r11 : Bool) (r12 : ByteArray) (w : World) (hr0_10 : Kd.C k60 w A0_10 l0_10.length l0_10) (hc0_10 : l0_10.length ≤ c0_10) (h : ipv6_Fragment.f b0 b1 b2 b3 b4 b5 b6 b7 b8 b9 l0_10 b11 b12 b13 b14 b15 = some (r1, r2, r3, r4, r5, r6, r7, r8, r9, r10, r11, r12)) :
  Calls Try.prog 20 #[.agg #[.int .i64 b0, .int .i64 b1, .int .i64 b2, .int .i64 b3, .bool b4, .int .u64 b5, .int .u64 b6, .bool b7, .int .u64 b8, .int .u64 b9, .slice A0_10 l0_10.length c0_10, .bool b11, .int .i64 b12, .int .i64 b13, .bool b14, .string b15]] w fun e w' => e = .returned (.agg #[.bool r1, .int .u64 r2, .int .u64 r3, .bool r4, .int .u64 r5, .int .u64 r6, .int .i64 r7, .int .i64 r8, .int .i64 r9, .int .i64 r10, .bool r11, .string r12]) ∧ Below w.heap.size w w' := by
 have hu28 := Try.underlying28
 have hu44 := Try.underlying44
 have hu25 := Try.underlying25
 have HR0_10 := As hr0_10
 have HC0_10 := As hc0_10
 clear hr0_10 hc0_10
 have HB := As (Below.refl w.heap.size w)
 have H : (some (b4, b5, b6, b7, b8, b9, b3, b12, b2, b13, b14, b15)) = some (r1, r2, r3, r4, r5, r6, r7, r8, r9, r10, r11, r12) := h
 clear h
 simp only [Option.some.injEq, Prod.mk.injEq] at H
 obtain ⟨rfl, rfl, rfl, rfl, rfl, rfl, rfl, rfl, rfl, rfl, rfl, rfl⟩ := H
 go_enter Try.func20, Try.ntmps20
 go_wp2_with (first | ((with_reducible refine gate_dst (N := 1) rfl ?_); refine box_event rfl (N := 1) rfl (cs := #[.int .i64 b0, .int .i64 b1, .int .i64 b2, .int .i64 b3, .bool b4, .int .u64 b5, .int .u64 b6, .bool b7, .int .u64 b8, .int .u64 b9, .slice A0_10 l0_10.length c0_10, .bool b11, .int .i64 b12, .int .i64 b13, .bool b14, .string b15]) (t := 28) kG ?_; intro gb289 hg w2 hbox hb; have BK289 := As (hbox); have GW289 := As ((by rw [hg]; exact (below_size (kB HB.out)) : w.heap.size ≤ gb289)); have GE289 := As ((by rw [hg]; exact (below_size (kB HB.out)) : w.heap.size ≤ gb289)); replace HB := As (below_step (kB HB.out) hb); clear hb hbox hg) | ((with_reducible refine gate_dst (N := 2) rfl ?_); refine box_event rfl (N := 2) rfl (cs := #[.bool false, .int .u64 0, .int .u64 0, .bool false, .int .u64 0, .int .u64 0, .int .i64 0, .int .i64 0, .int .i64 0, .int .i64 0, .bool false, .string (⟨#[]⟩ : ByteArray)]) (t := 44) kG ?_; intro gb290 hg w3 hbox hb; have BK290 := As (hbox); have GW290 := As ((by rw [hg]; exact (below_size (kB1 HB.out GE289.out)) : w.heap.size ≤ gb290)); have GE290 := As ((by rw [hg]; exact (below_size (kB1 HB.out GE289.out)) : w.heap.size ≤ gb290)); replace HB := As (below_step (kB1 HB.out GE289.out) hb); have NB289_290 := As ((by rw [hg]; exact Nat.ne_of_lt (blk_lt (kb BK289.out)) : gb289 ≠ gb290)); have NB290_289 := As ((by rw [hg]; exact Nat.ne_of_gt (blk_lt (kb BK289.out)) : gb290 ≠ gb289)); replace BK289 := As (blk_below (kb BK289.out) hb); clear hb hbox hg; have hnb4 := NB289_290.out; have hnc4 := NB290_289.out; have hcz5_0 := cells_16 BK289.out; have hfz5_0 := fun j_ => blk_frozen BK289.out j_) | ((with_reducible refine gate_store (t := 44) (p := 2) rfl ?_); refine store_rowev_12 gb290 (.bool b4) (.int .u64 b5) (.int .u64 b6) (.bool b7) (.int .u64 b8) (.int .u64 b9) (.int .i64 b3) (.int .i64 b12) (.int .i64 b2) (.int .i64 b13) (.bool b14) (.string b15) rfl (t := 44) (p := 2) (v := _) rfl rfl rfl rfl (t' := 44) (kb BK290.out) (by rfl) (by kernel_rfl) (by rfl) ?_))
 refine bodyPost_ret (results_cell_row rfl _ _ gb290 44 #[.bool b4, .int .u64 b5, .int .u64 b6, .bool b7, .int .u64 b8, .int .u64 b9, .int .i64 b3, .int .i64 b12, .int .i64 b2, .int .i64 b13, .bool b14, .string b15] (0, 0) _ rfl (by refine kb ?_; exact blk_all_12 (kb BK290.out) (by rfl)) Try.underlying44 rfl (by kernel_rfl)) rfl ?_
 exact ⟨kE, by exact kB2 HB.out GE289.out GE290.out⟩

/-! ### ipv6_Routed: function 22 -/
def ipv6_Routed.l0 : Nat → List (S60) → Int → Int → Option (Bool)
 | 0, _, _, _ => none
 | k + 1, x6, x7, x8 => if x8 < x7 then (if 0 ≤ x8 then (if x8 < (x6.length : Int) then (if ((rd_T60 x6 x8).f0) = 43 then (some true) else (ipv6_Routed.l0 k x6 x7 (wrap64 (x8 + 1)))) else (none)) else (none)) else (some false)
def ipv6_Routed.f (k : Nat) (b0 : Int) (b1 : Int) (b2 : Int) (b3 : Int) (b4 : Bool) (b5 : Int) (b6 : Int) (b7 : Bool) (b8 : Int) (b9 : Int) (l0_10 : List (S60)) (b11 : Bool) (b12 : Int) (b13 : Int) (b14 : Bool) (b15 : ByteArray) : Option (Bool) := ipv6_Routed.l0 k l0_10 (l0_10.length : Int) 0
theorem ipv6_Routed.mono_l : ∀ k, (∀ y0 y1 y2, LeO (ipv6_Routed.l0 k y0 y1 y2) (ipv6_Routed.l0 (k + 1) y0 y1 y2))
 | 0 => fun _ _ _ r h => by simp [ipv6_Routed.l0] at h
 | k + 1 => by
  have ih0 := ipv6_Routed.mono_l k
  intro y0 y1 y2
  unfold ipv6_Routed.l0
  repeat' first | with_reducible first | apply ih0 | apply LeO.refl | apply LeO.none | refine LeO.ite ?_ ?_ | refine LeO.bind ?_ (fun _ => ?_)
theorem ipv6_Routed.mono : ∀ a0 a1 a2 a3 a4 a5 a6 a7 a8 a9 a10 a11 a12 a13 a14 a15 k, LeO (ipv6_Routed.f k a0 a1 a2 a3 a4 a5 a6 a7 a8 a9 a10 a11 a12 a13 a14 a15) (ipv6_Routed.f (k + 1) a0 a1 a2 a3 a4 a5 a6 a7 a8 a9 a10 a11 a12 a13 a14 a15) := by
 intro a0 a1 a2 a3 a4 a5 a6 a7 a8 a9 a10 a11 a12 a13 a14 a15 k
 have ih0 := ipv6_Routed.mono_l k
 unfold ipv6_Routed.f
 repeat' first | with_reducible first | apply ih0 | apply LeO.refl | apply LeO.none | refine LeO.ite ?_ ?_ | refine LeO.bind ?_ (fun _ => ?_)
set_option maxHeartbeats 8000000 in
set_option maxRecDepth 100000 in
theorem ipv6_Routed.calls (k : Nat) (b0 : Int) (b1 : Int) (b2 : Int) (b3 : Int) (b4 : Bool) (b5 : Int) (b6 : Int) (b7 : Bool) (b8 : Int) (b9 : Int) (A0_10 : Option Addr) (c0_10 : Nat) (l0_10 : List (S60)) (b11 : Bool) (b12 : Int) (b13 : Int) (b14 : Bool) (b15 : ByteArray) (r : Bool) (w : World) (hr0_10 : Kd.C k60 w A0_10 l0_10.length l0_10) (hc0_10 : l0_10.length ≤ c0_10) (h : ipv6_Routed.f k b0 b1 b2 b3 b4 b5 b6 b7 b8 b9 l0_10 b11 b12 b13 b14 b15 = some r) :
  Calls Try.prog 22 #[.agg #[.int .i64 b0, .int .i64 b1, .int .i64 b2, .int .i64 b3, .bool b4, .int .u64 b5, .int .u64 b6, .bool b7, .int .u64 b8, .int .u64 b9, .slice A0_10 l0_10.length c0_10, .bool b11, .int .i64 b12, .int .i64 b13, .bool b14, .string b15]] w fun e w' => e = .returned (.bool r) ∧ Below w.heap.size w w' := by
 have hu28 := Try.underlying28
 have hu60 := Try.underlying60
 have HR0_10 := As hr0_10
 have HC0_10 := As hc0_10
 clear hr0_10 hc0_10
 have HB := As (Below.refl w.heap.size w)
 have H : (ipv6_Routed.l0 k l0_10 (l0_10.length : Int) 0) = some r := h
 clear h
 have H' := As H
 clear H
 go_enter Try.func22, Try.ntmps22
 go_wp2_with (first | ((with_reducible refine gate_dst (N := 1) rfl ?_); refine box_event rfl (N := 1) rfl (cs := #[.int .i64 b0, .int .i64 b1, .int .i64 b2, .int .i64 b3, .bool b4, .int .u64 b5, .int .u64 b6, .bool b7, .int .u64 b8, .int .u64 b9, .slice A0_10 l0_10.length c0_10, .bool b11, .int .i64 b12, .int .i64 b13, .bool b14, .string b15]) (t := 28) kG ?_; intro gb291 hg w2 hbox hb; have BK291 := As (hbox); have GW291 := As ((by rw [hg]; exact (below_size (kB HB.out)) : w.heap.size ≤ gb291)); have GE291 := As ((by rw [hg]; exact (below_size (kB HB.out)) : w.heap.size ≤ gb291)); replace HB := As (below_step (kB HB.out) hb); clear hb hbox hg; have hcz3_0 := cells_16 BK291.out; have hfz3_0 := fun j_ => blk_frozen BK291.out j_))
 go_loopg [8] k (fun kq v8 w' => ∃ (x8_1 : Int), v8 = .int .i64 x8_1 ∧ Aside0 (ipv6_Routed.l0 kq l0_10 (l0_10.length : Int) x8_1 = some r) ∧ Aside0 (kq ≤ k) ∧ Aside0 (w'.heap[gb291]? = some (.cells #[.int .i64 b0, .int .i64 b1, .int .i64 b2, .int .i64 b3, .bool b4, .int .u64 b5, .int .u64 b6, .bool b7, .int .u64 b8, .int .u64 b9, (.slice A0_10 l0_10.length c0_10), .bool b11, .int .i64 b12, .int .i64 b13, .bool b14, .string b15] 28 (0, 0))) ∧ Aside0 (Below w.heap.size w w'))
 case atStart => exact ⟨(0), kS, H', ⟨Nat.le_refl _⟩, ⟨kb BK291.out⟩, ⟨kB1 HB.out GE291.out⟩⟩
 clear H'
 try clear hcz3_0
 try clear hfz3_0
 obtain ⟨x8_1, rfl, HA, HK1, BK291, HB⟩ := hrel
 cases gk with
 | zero => exact absurd HA.out (by simp [ipv6_Routed.l0])
 | succ k1 =>
  have H := HA.out
  clear HA
  simp only [ipv6_Routed.l0] at H
  by_cases c4 : x8_1 < (l0_10.length : Int)
  ·rw [if_pos c4] at H
   have c4b0 : decide (x8_1 < (l0_10.length : Int)) = true := decide_eq_true c4
   clear c4
   by_cases c5 : 0 ≤ x8_1
   ·rw [if_pos c5] at H
    have c5b0 : decide (0 ≤ x8_1) = true := decide_eq_true c5
    clear c5
    by_cases c6 : x8_1 < (l0_10.length : Int)
    ·rw [if_pos c6] at H
     have c6b0 : decide (x8_1 < (l0_10.length : Int)) = true := decide_eq_true c6
     clear c6
     by_cases c7 : ((rd_T60 l0_10 x8_1).f0) = 43
     ·rw [if_pos c7] at H
      have c7b0 : (((rd_T60 l0_10 x8_1).f0) == 43) = true := beq_iff_eq.mpr c7
      have c7b1 : (((rd_T60 l0_10 x8_1).f0) != 43) = false := bne_eq_false_iff_eq.mpr c7
      clear c7
      obtain rfl := Option.some.inj H
      have p292 : 0 ≤ (x8_1 : Int) := of_decide_eq_true (by first | (with_reducible assumption) | assumption)
      have q292 : x8_1 < (l0_10.length : Int) := of_decide_eq_true (by first | (with_reducible assumption) | assumption)
      obtain ⟨ad292, e292, hx292_0, hx292_1⟩ := at_T60 HR0_10.out x8_1 p292 q292
      cases e292
      replace hx292_0 := hcell HB.out hx292_0
      replace hx292_1 := hcell HB.out hx292_1
      replace p292 := eq_true p292
      replace q292 := eq_true q292
      go_wp2_with (first | ((with_reducible refine gate_dst (N := 4) rfl ?_); refine box_event rfl (N := 4) rfl (cs := #[.int .i64 0, .string (⟨#[]⟩ : ByteArray)]) (t := 60) kG ?_; intro gb293 hg w8 hbox hb; have BK293 := As (hbox); have GW293 := As ((by rw [hg]; exact (below_size (kB1 HB.out GE291.out)) : w.heap.size ≤ gb293)); have GE293 := As ((by rw [hg]; exact (below_size (kB1 HB.out GE291.out)) : w.heap.size ≤ gb293)); replace HB := As (below_step (kB1 HB.out GE291.out) hb); have NB291_293 := As ((by rw [hg]; exact Nat.ne_of_lt (blk_lt (kb BK291.out)) : gb291 ≠ gb293)); have NB293_291 := As ((by rw [hg]; exact Nat.ne_of_gt (blk_lt (kb BK291.out)) : gb293 ≠ gb291)); replace BK291 := As (blk_below (kb BK291.out) hb); clear hb hbox hg; have hnb9 := NB293_291.out; have hnc9 := NB291_293.out; have hcz10_0 := cells_2 BK293.out; have hfz10_0 := fun j_ => blk_frozen BK293.out j_))
      go_ret
      exact ⟨kE, by exact kB2 HB.out GE291.out GE293.out⟩
     rw [if_neg c7] at H
     have c7b0 : (((rd_T60 l0_10 x8_1).f0) == 43) = false := beq_eq_false_iff_ne.mpr c7
     have c7b1 : (((rd_T60 l0_10 x8_1).f0) != 43) = true := bne_iff_ne.mpr c7
     have H' := As H
     clear H
     have p292 : 0 ≤ (x8_1 : Int) := of_decide_eq_true (by first | (with_reducible assumption) | assumption)
     have q292 : x8_1 < (l0_10.length : Int) := of_decide_eq_true (by first | (with_reducible assumption) | assumption)
     obtain ⟨ad292, e292, hx292_0, hx292_1⟩ := at_T60 HR0_10.out x8_1 p292 q292
     cases e292
     replace hx292_0 := hcell HB.out hx292_0
     replace hx292_1 := hcell HB.out hx292_1
     replace p292 := eq_true p292
     replace q292 := eq_true q292
     go_wp2_with (first | ((with_reducible refine gate_dst (N := 4) rfl ?_); refine box_event rfl (N := 4) rfl (cs := #[.int .i64 0, .string (⟨#[]⟩ : ByteArray)]) (t := 60) kG ?_; intro gb293 hg w11 hbox hb; have BK293 := As (hbox); have GW293 := As ((by rw [hg]; exact (below_size (kB1 HB.out GE291.out)) : w.heap.size ≤ gb293)); have GE293 := As ((by rw [hg]; exact (below_size (kB1 HB.out GE291.out)) : w.heap.size ≤ gb293)); replace HB := As (below_step (kB1 HB.out GE291.out) hb); have NB291_293 := As ((by rw [hg]; exact Nat.ne_of_lt (blk_lt (kb BK291.out)) : gb291 ≠ gb293)); have NB293_291 := As ((by rw [hg]; exact Nat.ne_of_gt (blk_lt (kb BK291.out)) : gb293 ≠ gb291)); replace BK291 := As (blk_below (kb BK291.out) hb); clear hb hbox hg; have hnb12 := NB293_291.out; have hnc12 := NB291_293.out; have hcz13_0 := cells_2 BK293.out; have hfz13_0 := fun j_ => blk_frozen BK293.out j_))
     go_roundg k1
     case measure => have := HK1.out; omega
     case rel => exact ⟨(wrap64 (x8_1 + 1)), kS, H', ⟨by have := HK1.out; omega⟩, ⟨by refine kb ?_; refine blk_far ?_ NB291_293.out _; refine kb ?_; refine blk_far ?_ NB291_293.out _; exact kb BK291.out⟩, ⟨kB2 HB.out GE291.out GE293.out⟩⟩
    rw [if_neg c6] at H
    exact absurd H (by simp)
   rw [if_neg c5] at H
   exact absurd H (by simp)
  rw [if_neg c4] at H
  have c4b0 : decide (x8_1 < (l0_10.length : Int)) = false := decide_eq_false c4
  clear c4
  obtain rfl := Option.some.inj H
  go_wp2
  go_ret
  exact ⟨kE, by exact kB1 HB.out GE291.out⟩

/-! ### intrusionlaw12_packet: function 24 -/
def intrusionlaw12_packet.f  : Option (Int × Int × Int × Int × Bool × Int × Int × Bool × Int × Int × (List (S60)) × Bool × Int × Int × Bool × ByteArray) := some (0, 0, 64, 17, true, 0, 1, true, 0, 2, (([(⟨60, (⟨#[97, 98, 99, 100, 101, 102]⟩ : ByteArray)⟩ : S60)] : List (S60))), false, 0, 0, false, (⟨#[120, 121, 122]⟩ : ByteArray))
set_option maxHeartbeats 8000000 in
set_option maxRecDepth 100000 in
theorem intrusionlaw12_packet.calls  (r1 : Int) (r2 : Int) (r3 : Int) (r4 : Int) (r5 : Bool) (r6 : Int) (r7 : Int) (r8 : Bool) (r9 : Int) (r10 : Int) (r11 : List (S60)) (r12 : Bool) (r13 : Int) (r14 : Int) (r15 : Bool) (r16 : ByteArray) (w : World) (h : intrusionlaw12_packet.f  = some (r1, r2, r3, r4, r5, r6, r7, r8, r9, r10, r11, r12, r13, r14, r15, r16)) :
  Calls Try.prog 24 #[] w fun e w' => ∃ v10_ : Value, e = .returned (.agg #[.int .i64 r1, .int .i64 r2, .int .i64 r3, .int .i64 r4, .bool r5, .int .u64 r6, .int .u64 r7, .bool r8, .int .u64 r9, .int .u64 r10, v10_, .bool r12, .int .i64 r13, .int .i64 r14, .bool r15, .string r16]) ∧ Kd.R k60 60 w' w.heap.size (fun _ => True) v10_ r11 ∧ Below w.heap.size w w' := by
 have hu28 := Try.underlying28
 have hu25 := Try.underlying25
 have hu60 := Try.underlying60
 have HB := As (Below.refl w.heap.size w)
 have H : (some (0, 0, 64, 17, true, 0, 1, true, 0, 2, (([(⟨60, (⟨#[97, 98, 99, 100, 101, 102]⟩ : ByteArray)⟩ : S60)] : List (S60))), false, 0, 0, false, (⟨#[120, 121, 122]⟩ : ByteArray))) = some (r1, r2, r3, r4, r5, r6, r7, r8, r9, r10, r11, r12, r13, r14, r15, r16) := h
 clear h
 obtain ⟨y295, hy295⟩ : ∃ y_ : List (S60), y_ = (([(⟨60, (⟨#[97, 98, 99, 100, 101, 102]⟩ : ByteArray)⟩ : S60)] : List (S60))) := ⟨_, rfl⟩
 replace H : (some (0, 0, 64, 17, true, 0, 1, true, 0, 2, y295, false, 0, 0, false, (⟨#[120, 121, 122]⟩ : ByteArray))) = some (r1, r2, r3, r4, r5, r6, r7, r8, r9, r10, r11, r12, r13, r14, r15, r16) := by first | (rw [hy295]; with_reducible exact H) | (have H2_ := (Option.bind_some _ _).symm.trans H; rw [hy295]; with_reducible exact H2_) | (have H2_ := (Option.bind_some _ _).symm.trans H; with_reducible exact H2_) | with_reducible exact H | (rw [hy295]; exact H) | exact H
 have Ny295 := As hy295
 clear hy295
 simp only [Option.some.injEq, Prod.mk.injEq] at H
 obtain ⟨rfl, rfl, rfl, rfl, rfl, rfl, rfl, rfl, rfl, rfl, rfl, rfl, rfl, rfl, rfl, rfl⟩ := H
 go_enter Try.func24, Try.ntmps24
 go_wp2_with (first | ((with_reducible refine gate_dst (N := 0) rfl ?_); refine box_event rfl (N := 0) rfl (cs := #[.int .i64 0, .int .i64 0, .int .i64 0, .int .i64 0, .bool false, .int .u64 0, .int .u64 0, .bool false, .int .u64 0, .int .u64 0, .slice none 0 0, .bool false, .int .i64 0, .int .i64 0, .bool false, .string (⟨#[]⟩ : ByteArray)]) (t := 28) kG ?_; intro gb294 hg w1 hbox hb; have BK294 := As (hbox); have GW294 := As ((by rw [hg]; exact (below_size (kB HB.out)) : w.heap.size ≤ gb294)); have GE294 := As ((by rw [hg]; exact (below_size (kB HB.out)) : w.heap.size ≤ gb294)); replace HB := As (below_step (kB HB.out) hb); clear hb hbox hg) | ((with_reducible refine gate_dst (N := 4) rfl ?_); refine Kd.R_lit k60 _ 60 rfl (N := 4) rfl (xs := ([(⟨60, (⟨#[97, 98, 99, 100, 101, 102]⟩ : ByteArray)⟩ : S60)] : List (S60))) (inner := [.int .i64 60, .string (⟨#[97, 98, 99, 100, 101, 102]⟩ : ByteArray)]) (ok := fun _ => True) (okp := fun _ => True) kG ?hp (fun _ hk => hk) trivial (Below.refl _ _) (Nat.le_refl _) (by simp) ?_; (case hp => exact (Reps.c2 (show Kd.M k60 _ _ _ (⟨60, (⟨#[97, 98, 99, 100, 101, 102]⟩ : ByteArray)⟩ : S60) [.int .i64 60, .string (⟨#[97, 98, 99, 100, 101, 102]⟩ : ByteArray)] from (k60_mkM _ _ _ (⟨60, (⟨#[97, 98, 99, 100, 101, 102]⟩ : ByteArray)⟩ : S60) )) (Reps.none _ _))); intro v296 w2 ho3 hb hg_ hnew_; clear hg_ hnew_; (first | rw [← Ny295.out] at ho3 | (simp only [Int.reduceToNat] at ho3; rw [← Ny295.out] at ho3)); have HO297 := As (Kd.R_lower ho3 (below_size (kB1 HB.out GE294.out))); replace BK294 := As (blk_below (kb BK294.out) hb); replace HB := As (below_step (kB1 HB.out GE294.out) hb); clear hb ho3; obtain ⟨Ao4, co4, eo4⟩ := Kd.R_slice HO297.out; subst eo4) | ((with_reducible refine gate_store (t := 28) (p := 0) rfl ?_); refine store_rowev_16 gb294 (.int .i64 0) (.int .i64 0) (.int .i64 64) (.int .i64 17) (.bool true) (.int .u64 0) (.int .u64 1) (.bool true) (.int .u64 0) (.int .u64 2) (.slice Ao4 y295.length co4) (.bool false) (.int .i64 0) (.int .i64 0) (.bool false) (.string (⟨#[120, 121, 122]⟩ : ByteArray)) rfl (t := 28) (p := 0) (v := _) rfl rfl rfl rfl (t' := 28) (kb BK294.out) (by rfl) (by kernel_rfl) (by rfl) ?_))
 refine bodyPost_ret (results_cell_row rfl _ _ gb294 28 #[.int .i64 0, .int .i64 0, .int .i64 64, .int .i64 17, .bool true, .int .u64 0, .int .u64 1, .bool true, .int .u64 0, .int .u64 2, .slice Ao4 y295.length co4, .bool false, .int .i64 0, .int .i64 0, .bool false, .string (⟨#[120, 121, 122]⟩ : ByteArray)] (0, 0) _ rfl (by refine kb ?_; exact blk_all_16 (kb BK294.out) (by rfl)) Try.underlying28 rfl (by kernel_rfl)) rfl ?_
 exact ⟨_, kE, by (with_reducible repeat (first | apply Kd.R_alloc | apply Kd.R_drewN | apply Kd.R_drew)); exact Kd.R_mono (Kd.R_puts_0_16 gb294 (.int .i64 0) (.int .i64 0) (.int .i64 64) (.int .i64 17) (.bool true) (.int .u64 0) (.int .u64 1) (.bool true) (.int .u64 0) (.int .u64 2) (.slice Ao4 y295.length co4) (.bool false) (.int .i64 0) (.int .i64 0) (.bool false) (.string (⟨#[120, 121, 122]⟩ : ByteArray)) (Kd.R_types HO297.out BK294.out (by decide)) (fun _ hk => hk.2)) (fun _ hk => trivial), by exact kB1 HB.out GE294.out⟩

end Go.Proofs.Ytljboandbjahdaa.X
-- short
