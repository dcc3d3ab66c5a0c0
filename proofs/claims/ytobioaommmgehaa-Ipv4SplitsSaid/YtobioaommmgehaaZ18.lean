/- Functions and their walks, printed by xprint.py. -/
import Derived.Test.YtobioaommmgehaaZ0
namespace Go.Proofs.Ytobioaommmgehaa.Z
open Go.RowKit Go.Proofs.YtobioaommmgehaaW.PrintWords Go.Proofs.YtobioaommmgehaaW.PrintLast Go.Proofs.YtobioaommmgehaaW.PrintMore
attribute [local go_sem] max2_int min2_int max_two min_two max_three min_three max_four min_four   -- for this text's walks alone
set_option linter.unusedVariables false
set_option linter.unusedSimpArgs false

/-! ### intrusionref11_copied: function 51 -/
def intrusionref11_copied.l0 : Nat → ByteArray → Int → Bool → Int → List (S50) → Int → Int → Int → Int → Int → Bool → Bool → Int → Bool → Int → Int → Bool → Int → Int → List (S50) → ByteArray → Option (Int × Int × Int × Int × Bool × Bool × Int × Bool × Int × Int × Bool × Int × Int × (List (S50)) × ByteArray)
 | 0, _, _, _, _, _, _, _, _, _, _, _, _, _, _, _, _, _, _, _, _, _ => none
 | k + 1, x1, x2, x3, x4, x11, x12, b0, b1, b2, b3, b4, b5, b6, b7, b8, b9, b10, b11, b12, b13, b14 => if x12 < (b13.length : Int) then (if x4 = 0 then (if 0 ≤ x12 then (if x11.length < 5864062014805 then (intrusionref11_copied.l0 k x1 x2 x3 x4 (x11 ++ [(⟨(rd_T50 b13 x12).f0, (rd_T50 b13 x12).f1⟩ : S50)]) (wrap64 (x12 + 1)) b0 b1 b2 b3 b4 b5 b6 b7 b8 b9 b10 b11 b12 b13 b14) else (none)) else (none)) else (if 0 ≤ x12 then (if ((rd_T50 b13 x12).f0) ≥ 128 then (if x11.length < 5864062014805 then (intrusionref11_copied.l0 k x1 x2 x3 x4 (x11 ++ [(⟨(rd_T50 b13 x12).f0, (rd_T50 b13 x12).f1⟩ : S50)]) (wrap64 (x12 + 1)) b0 b1 b2 b3 b4 b5 b6 b7 b8 b9 b10 b11 b12 b13 b14) else (none)) else (intrusionref11_copied.l0 k x1 x2 x3 x4 x11 (wrap64 (x12 + 1)) b0 b1 b2 b3 b4 b5 b6 b7 b8 b9 b10 b11 b12 b13 b14)) else (none))) else (some (b0, b1, b2, b3, b4, x3, x2, b7, b8, b9, b10, b11, b12, x11, x1))
def intrusionref11_copied.f (k : Nat) (d0 : Int) (d1 : Int) (d2 : Int) (d3 : Int) (d4 : Bool) (d5 : Bool) (d6 : Int) (d7 : Bool) (d8 : Int) (d9 : Int) (d10 : Bool) (d11 : Int) (d12 : Int) (l0_13 : List (S50)) (d14 : ByteArray) (a1 : ByteArray) (a2 : Int) (a3 : Bool) (a4 : Int) : Option (Int × Int × Int × Int × Bool × Bool × Int × Bool × Int × Int × Bool × Int × Int × (List (S50)) × ByteArray) := intrusionref11_copied.l0 k a1 a2 a3 a4 (([] : List (S50))) 0 d0 d1 d2 d3 d4 d5 d6 d7 d8 d9 d10 d11 d12 l0_13 d14
theorem intrusionref11_copied.mono_l : ∀ k, (∀ y0 y1 y2 y3 y4 y5 y6 y7 y8 y9 y10 y11 y12 y13 y14 y15 y16 y17 y18 y19 y20, LeO (intrusionref11_copied.l0 k y0 y1 y2 y3 y4 y5 y6 y7 y8 y9 y10 y11 y12 y13 y14 y15 y16 y17 y18 y19 y20) (intrusionref11_copied.l0 (k + 1) y0 y1 y2 y3 y4 y5 y6 y7 y8 y9 y10 y11 y12 y13 y14 y15 y16 y17 y18 y19 y20))
 | 0 => fun _ _ _ _ _ _ _ _ _ _ _ _ _ _ _ _ _ _ _ _ _ r h => by simp [intrusionref11_copied.l0] at h
 | k + 1 => by
  have ih0 := intrusionref11_copied.mono_l k
  intro y0 y1 y2 y3 y4 y5 y6 y7 y8 y9 y10 y11 y12 y13 y14 y15 y16 y17 y18 y19 y20
  unfold intrusionref11_copied.l0
  repeat' first | with_reducible first | apply ih0 | apply LeO.refl | apply LeO.none | refine LeO.ite ?_ ?_ | refine LeO.bind ?_ (fun _ => ?_)
theorem intrusionref11_copied.mono : ∀ a0 a1 a2 a3 a4 a5 a6 a7 a8 a9 a10 a11 a12 a13 a14 a15 a16 a17 a18 k, LeO (intrusionref11_copied.f k a0 a1 a2 a3 a4 a5 a6 a7 a8 a9 a10 a11 a12 a13 a14 a15 a16 a17 a18) (intrusionref11_copied.f (k + 1) a0 a1 a2 a3 a4 a5 a6 a7 a8 a9 a10 a11 a12 a13 a14 a15 a16 a17 a18) := by
 intro a0 a1 a2 a3 a4 a5 a6 a7 a8 a9 a10 a11 a12 a13 a14 a15 a16 a17 a18 k
 have ih0 := intrusionref11_copied.mono_l k
 unfold intrusionref11_copied.f
 repeat' first | with_reducible first | apply ih0 | apply LeO.refl | apply LeO.none | refine LeO.ite ?_ ?_ | refine LeO.bind ?_ (fun _ => ?_)
set_option maxHeartbeats 8000000 in
set_option maxRecDepth 100000 in
theorem intrusionref11_copied.calls (k : Nat) (d0 : Int) (d1 : Int) (d2 : Int) (d3 : Int) (d4 : Bool) (d5 : Bool) (d6 : Int) (d7 : Bool) (d8 : Int) (d9 : Int) (d10 : Bool) (d11 : Int) (d12 : Int) (A0_13 : Option Addr) (c0_13 : Nat) (l0_13 : List (S50)) (d14 : ByteArray) (a1 : ByteArray) (a2 : Int) (a3 : Bool) (a4 : Int) (r1 : Int) (r2 : Int) (r3 : Int) (r4 : Int) (r5 : Bool) (r6 : Bool) (r7 : Int) (r8 : Bool) (r9 : Int) (r10 : Int) (r11 : Bool) (r12 : Int) (r13 : Int) (r14 : List (S50)) (r15 : ByteArray) (w : World) (hr0_13 : Kd.C k50 w A0_13 l0_13.length l0_13) (hc0_13 : l0_13.length ≤ c0_13) (h : intrusionref11_copied.f k d0 d1 d2 d3 d4 d5 d6 d7 d8 d9 d10 d11 d12 l0_13 d14 a1 a2 a3 a4 = some (r1, r2, r3, r4, r5, r6, r7, r8, r9, r10, r11, r12, r13, r14, r15)) :
  Calls Try.prog 51 #[.agg #[.int .i64 d0, .int .i64 d1, .int .i64 d2, .int .i64 d3, .bool d4, .bool d5, .int .i64 d6, .bool d7, .int .u64 d8, .int .u64 d9, .bool d10, .int .u64 d11, .int .u64 d12, .slice A0_13 l0_13.length c0_13, .string d14], .string a1, .int .i64 a2, .bool a3, .int .i64 a4] w fun e w' => ∃ v13_ : Value, e = .returned (.agg #[.int .i64 r1, .int .i64 r2, .int .i64 r3, .int .i64 r4, .bool r5, .bool r6, .int .i64 r7, .bool r8, .int .u64 r9, .int .u64 r10, .bool r11, .int .u64 r12, .int .u64 r13, v13_, .string r15]) ∧ Kd.R k50 50 w' w.heap.size (fun _ => True) v13_ r14 ∧ Below w.heap.size w w' := by
 have hu28 := Try.underlying28
 have hu50 := Try.underlying50
 have HR0_13 := As hr0_13
 have HC0_13 := As hc0_13
 clear hr0_13 hc0_13
 have HB := As (Below.refl w.heap.size w)
 have H : (intrusionref11_copied.l0 k a1 a2 a3 a4 (([] : List (S50))) 0 d0 d1 d2 d3 d4 d5 d6 d7 d8 d9 d10 d11 d12 l0_13 d14) = some (r1, r2, r3, r4, r5, r6, r7, r8, r9, r10, r11, r12, r13, r14, r15) := h
 clear h
 obtain ⟨y438, hy438⟩ : ∃ y_ : List (S50), y_ = (([] : List (S50))) := ⟨_, rfl⟩
 replace H : (intrusionref11_copied.l0 k a1 a2 a3 a4 y438 0 d0 d1 d2 d3 d4 d5 d6 d7 d8 d9 d10 d11 d12 l0_13 d14) = some (r1, r2, r3, r4, r5, r6, r7, r8, r9, r10, r11, r12, r13, r14, r15) := by first | (rw [hy438]; with_reducible exact H) | (have H2_ := (Option.bind_some _ _).symm.trans H; rw [hy438]; with_reducible exact H2_) | (have H2_ := (Option.bind_some _ _).symm.trans H; with_reducible exact H2_) | with_reducible exact H | (rw [hy438]; exact H) | exact H
 have Ny438 := As hy438
 clear hy438
 have H' := As H
 clear H
 go_enter Try.func51, Try.ntmps51
 go_wp2_with (first | ((with_reducible refine gate_dst (N := 5) rfl ?_); refine box_event rfl (N := 5) rfl (cs := #[.int .i64 d0, .int .i64 d1, .int .i64 d2, .int .i64 d3, .bool d4, .bool d5, .int .i64 d6, .bool d7, .int .u64 d8, .int .u64 d9, .bool d10, .int .u64 d11, .int .u64 d12, .slice A0_13 l0_13.length c0_13, .string d14]) (t := 28) kG ?_; intro gb436 hg w6 hbox hb; have BK436 := As (hbox); have GW436 := As (gS hg (below_size (kB HB.out))); have GE436 := As (gS hg (below_size (kB HB.out))); replace HB := As (below_step (kB HB.out) hb); clear hb hbox hg) | ((with_reducible refine gate_dst (N := 10) rfl ?_); refine box_event rfl (N := 10) rfl (cs := #[.int .i64 0, .int .i64 0, .int .i64 0, .int .i64 0, .bool false, .bool false, .int .i64 0, .bool false, .int .u64 0, .int .u64 0, .bool false, .int .u64 0, .int .u64 0, .slice none 0 0, .string (⟨#[]⟩ : ByteArray)]) (t := 28) kG ?_; intro gb437 hg w7 hbox hb; have BK437 := As (hbox); have GW437 := As (gS hg (below_size (kB1 HB.out GE436.out))); have GE437 := As (gS hg (below_size (kB1 HB.out GE436.out))); replace HB := As (below_step (kB1 HB.out GE436.out) hb); have NB436_437 := As (gN hg (blk_lt (kb BK436.out))); have NB437_436 := As (gM hg (blk_lt (kb BK436.out))); replace BK436 := As (blk_below (kb BK436.out) hb); clear hb hbox hg) | ((with_reducible refine gate_dst (N := 13) rfl ?_); refine Kd.R_lit k50 _ 50 rfl (N := 13) rfl (xs := ([] : List (S50))) (inner := []) (ok := fun _ => True) (okp := fun _ => True) kG ?hp (fun _ hk => hk) trivial (Below.refl _ _) (Nat.le_refl _) (by simp) ?_; (case hp => exact (Reps.none _ _)); intro v439 w8 ho9 hb hg_ hnew_; clear hg_ hnew_; (first | rw [← Ny438.out] at ho9 | (simp only [Int.reduceToNat] at ho9; rw [← Ny438.out] at ho9)); have HO440 := As (Kd.R_lower ho9 (below_size (kB2 HB.out GE436.out GE437.out))); replace BK436 := As (blk_below (kb BK436.out) hb); replace BK437 := As (blk_below (kb BK437.out) hb); replace HB := As (below_step (kB2 HB.out GE436.out GE437.out) hb); clear hb ho9))
 go_loopg [11, 12] k (fun kq v11 v12 w' => ∃ (x11_1 : List (S50)) (x12_1 : Int), v12 = .int .i64 x12_1 ∧ Aside0 (intrusionref11_copied.l0 kq a1 a2 a3 a4 x11_1 x12_1 d0 d1 d2 d3 d4 d5 d6 d7 d8 d9 d10 d11 d12 l0_13 d14 = some (r1, r2, r3, r4, r5, r6, r7, r8, r9, r10, r11, r12, r13, r14, r15)) ∧ Aside0 (kq ≤ k) ∧ Aside0 (Kd.R k50 50 w' w.heap.size (fun _ => True) v11 x11_1) ∧ Aside0 (w'.heap[gb436]? = some (.cells #[.int .i64 d0, .int .i64 d1, .int .i64 d2, .int .i64 d3, .bool d4, .bool d5, .int .i64 d6, .bool d7, .int .u64 d8, .int .u64 d9, .bool d10, .int .u64 d11, .int .u64 d12, (.slice A0_13 l0_13.length c0_13), .string d14] 28 (0, 0))) ∧ Aside0 (w'.heap[gb437]? = some (.cells #[.int .i64 0, .int .i64 0, .int .i64 0, .int .i64 0, .bool false, .bool false, .int .i64 0, .bool false, .int .u64 0, .int .u64 0, .bool false, .int .u64 0, .int .u64 0, (.slice none 0 0), .string (⟨#[]⟩ : ByteArray)] 28 (0, 0))) ∧ Aside0 (Below w.heap.size w w'))
 case atStart => exact ⟨(y438), (0), kS, H', ⟨Nat.le_refl _⟩, ⟨by (with_reducible repeat (first | apply Kd.R_alloc | apply Kd.R_drewN | apply Kd.R_drew)); exact HO440.out⟩, ⟨kb BK436.out⟩, ⟨kb BK437.out⟩, ⟨kB2 HB.out GE436.out GE437.out⟩⟩
 clear H'
 obtain ⟨x11_1, x12_1, rfl, HA, HK1, HO_11, BK436, BK437, HB⟩ := hrel
 cases gk with
 | zero => exact absurd HA.out (by simp [intrusionref11_copied.l0])
 | succ k1 =>
  have H := HA.out
  clear HA
  simp only [intrusionref11_copied.l0] at H
  by_cases c10 : x12_1 < (l0_13.length : Int)
  ·rw [if_pos c10] at H
   have c10b0 : decide (x12_1 < (l0_13.length : Int)) = true := decide_eq_true c10
   clear c10
   by_cases c11 : a4 = 0
   ·rw [if_pos c11] at H
    have c11b0 : (a4 == 0) = true := beq_iff_eq.mpr c11
    have c11b1 : (a4 != 0) = false := bne_eq_false_iff_eq.mpr c11
    clear c11
    replace H := iS H
    obtain ⟨c12, H⟩ := H
    have c12b0 := decide_eq_true c12
    clear c12
    replace H := iS H
    obtain ⟨c13, H⟩ := H
    have LMc13 := As c13
    clear c13
    obtain ⟨y442, hy442⟩ : ∃ y_ : List (S50), y_ = (x11_1 ++ [(⟨(rd_T50 l0_13 x12_1).f0, (rd_T50 l0_13 x12_1).f1⟩ : S50)]) := ⟨_, rfl⟩
    replace H : (intrusionref11_copied.l0 k1 a1 a2 a3 a4 y442 (wrap64 (x12_1 + 1)) d0 d1 d2 d3 d4 d5 d6 d7 d8 d9 d10 d11 d12 l0_13 d14) = some (r1, r2, r3, r4, r5, r6, r7, r8, r9, r10, r11, r12, r13, r14, r15) := by first | (rw [hy442]; with_reducible exact H) | (have H2_ := (Option.bind_some _ _).symm.trans H; rw [hy442]; with_reducible exact H2_) | (have H2_ := (Option.bind_some _ _).symm.trans H; with_reducible exact H2_) | with_reducible exact H | (rw [hy442]; exact H) | exact H
    have Ny442 := As hy442
    clear hy442
    have H' := As H
    clear H
    have hnb14 := NB436_437.out
    have hnc14 := NB437_436.out
    have hcz15_0 := cells_15 BK436.out
    have hfz15_0 := fun j_ => blk_frozen BK436.out j_
    have p441 : 0 ≤ (x12_1 : Int) := of_decide_eq_true (by first | (with_reducible assumption) | assumption)
    have q441 : x12_1 < (l0_13.length : Int) := of_decide_eq_true (by first | (with_reducible assumption) | assumption)
    obtain ⟨ad441, e441, hx441_0, hx441_1⟩ := at_T50 HR0_13.out x12_1 p441 q441
    cases e441
    replace hx441_0 := hcell HB.out hx441_0
    replace hx441_1 := hcell HB.out hx441_1
    replace p441 := eq_true p441
    replace q441 := eq_true q441
    go_wp2_with (first | ((with_reducible refine gate_builtin (b := .append) (xs := #[.tmp 32, .tmp 38]) rfl ?_); at_builtin; refine Kd.R_append k50 (w0 := w) w.heap.size rfl (.tmp 32) (.tmp 38) 26 50 (.agg #[(.int .i64 0), (.string ⟨#[]⟩)]) 24 rfl Try.underlying26 info50 rfl (by decide) (by omega) u11 x11_1 (⟨(rd_T50 l0_13 x12_1).f0, (rd_T50 l0_13 x12_1).f1⟩ : S50) [.int .i64 ((rd_T50 l0_13 x12_1).f0), .string ((rd_T50 l0_13 x12_1).f1)] (fun _ => True) (fun _ => False) rfl rfl ?aP (fun _ hk => hk.elim) ?aF ?aO ?aB ?aS ?aL ?_; (case aP => exact k50_mkM _ _ _ (⟨(rd_T50 l0_13 x12_1).f0, (rd_T50 l0_13 x12_1).f1⟩ : S50)); (case aB => exact (kB2 HB.out GE436.out GE437.out)); (case aF => exact (fun _ _ => trivial)); (case aO => exact (kR HO_11.out)); (case aS => exact (below_size (kB2 HB.out GE436.out GE437.out))); (case aL => have := LMc13.out; omega); intro v443 w16 ho hb hg hat; rw [← Ny442.out] at ho; replace BK436 := As (blk_grown (kb BK436.out) hg (Kd.R_ne HO_11.out BK436.out (by decide))); replace BK437 := As (blk_grown (kb BK437.out) hg (Kd.R_ne HO_11.out BK437.out (by decide))); replace HB := As (hb); have HO444 := As (ho); clear HO_11; clear ho hb hg hat))
    go_roundg k1
    case measure => have := HK1.out; omega
    case rel => exact ⟨(y442), (wrap64 (x12_1 + 1)), kS, H', ⟨by have := HK1.out; omega⟩, ⟨by (with_reducible repeat (first | apply Kd.R_alloc | apply Kd.R_drewN | apply Kd.R_drew)); exact HO444.out⟩, ⟨kb BK436.out⟩, ⟨kb BK437.out⟩, ⟨kB2 HB.out GE436.out GE437.out⟩⟩
   rw [if_neg c11] at H
   have c11b0 : (a4 == 0) = false := beq_eq_false_iff_ne.mpr c11
   have c11b1 : (a4 != 0) = true := bne_iff_ne.mpr c11
   replace H := iS H
   obtain ⟨c17, H⟩ := H
   have c17b0 := decide_eq_true c17
   clear c17
   by_cases c18 : ((rd_T50 l0_13 x12_1).f0) ≥ 128
   ·rw [if_pos c18] at H
    have c18b0 : decide (128 ≤ ((rd_T50 l0_13 x12_1).f0)) = true := decide_eq_true c18
    clear c18
    replace H := iS H
    obtain ⟨c19, H⟩ := H
    have LMc19 := As c19
    clear c19
    obtain ⟨y447, hy447⟩ : ∃ y_ : List (S50), y_ = (x11_1 ++ [(⟨(rd_T50 l0_13 x12_1).f0, (rd_T50 l0_13 x12_1).f1⟩ : S50)]) := ⟨_, rfl⟩
    replace H : (intrusionref11_copied.l0 k1 a1 a2 a3 a4 y447 (wrap64 (x12_1 + 1)) d0 d1 d2 d3 d4 d5 d6 d7 d8 d9 d10 d11 d12 l0_13 d14) = some (r1, r2, r3, r4, r5, r6, r7, r8, r9, r10, r11, r12, r13, r14, r15) := by first | (rw [hy447]; with_reducible exact H) | (have H2_ := (Option.bind_some _ _).symm.trans H; rw [hy447]; with_reducible exact H2_) | (have H2_ := (Option.bind_some _ _).symm.trans H; with_reducible exact H2_) | with_reducible exact H | (rw [hy447]; exact H) | exact H
    have Ny447 := As hy447
    clear hy447
    have H' := As H
    clear H
    have hnb20 := NB436_437.out
    have hnc20 := NB437_436.out
    have hcz21_0 := cells_15 BK436.out
    have hfz21_0 := fun j_ => blk_frozen BK436.out j_
    have p445 : 0 ≤ (x12_1 : Int) := of_decide_eq_true (by first | (with_reducible assumption) | assumption)
    have q445 : x12_1 < (l0_13.length : Int) := of_decide_eq_true (by first | (with_reducible assumption) | assumption)
    obtain ⟨ad445, e445, hx445_0, hx445_1⟩ := at_T50 HR0_13.out x12_1 p445 q445
    cases e445
    replace hx445_0 := hcell HB.out hx445_0
    replace hx445_1 := hcell HB.out hx445_1
    replace p445 := eq_true p445
    replace q445 := eq_true q445
    have p446 : 0 ≤ (x12_1 : Int) := of_decide_eq_true (by first | (with_reducible assumption) | assumption)
    have q446 : x12_1 < (l0_13.length : Int) := of_decide_eq_true (by first | (with_reducible assumption) | assumption)
    obtain ⟨ad446, e446, hx446_0, hx446_1⟩ := at_T50 HR0_13.out x12_1 p446 q446
    obtain rfl : ad445 = ad446 := (by injection e446)
    replace hx446_0 := hcell HB.out hx446_0
    replace hx446_1 := hcell HB.out hx446_1
    replace p446 := eq_true p446
    replace q446 := eq_true q446
    go_wp2_with (first | ((with_reducible refine gate_builtin (b := .append) (xs := #[.tmp 32, .tmp 38]) rfl ?_); at_builtin; refine Kd.R_append k50 (w0 := w) w.heap.size rfl (.tmp 32) (.tmp 38) 26 50 (.agg #[(.int .i64 0), (.string ⟨#[]⟩)]) 24 rfl Try.underlying26 info50 rfl (by decide) (by omega) u11 x11_1 (⟨(rd_T50 l0_13 x12_1).f0, (rd_T50 l0_13 x12_1).f1⟩ : S50) [.int .i64 ((rd_T50 l0_13 x12_1).f0), .string ((rd_T50 l0_13 x12_1).f1)] (fun _ => True) (fun _ => False) rfl rfl ?aP (fun _ hk => hk.elim) ?aF ?aO ?aB ?aS ?aL ?_; (case aP => exact k50_mkM _ _ _ (⟨(rd_T50 l0_13 x12_1).f0, (rd_T50 l0_13 x12_1).f1⟩ : S50)); (case aB => exact (kB2 HB.out GE436.out GE437.out)); (case aF => exact (fun _ _ => trivial)); (case aO => exact (kR HO_11.out)); (case aS => exact (below_size (kB2 HB.out GE436.out GE437.out))); (case aL => have := LMc19.out; omega); intro v448 w22 ho hb hg hat; rw [← Ny447.out] at ho; replace BK436 := As (blk_grown (kb BK436.out) hg (Kd.R_ne HO_11.out BK436.out (by decide))); replace BK437 := As (blk_grown (kb BK437.out) hg (Kd.R_ne HO_11.out BK437.out (by decide))); replace HB := As (hb); have HO449 := As (ho); clear HO_11; clear ho hb hg hat))
    go_roundg k1
    case measure => have := HK1.out; omega
    case rel => exact ⟨(y447), (wrap64 (x12_1 + 1)), kS, H', ⟨by have := HK1.out; omega⟩, ⟨by (with_reducible repeat (first | apply Kd.R_alloc | apply Kd.R_drewN | apply Kd.R_drew)); exact HO449.out⟩, ⟨kb BK436.out⟩, ⟨kb BK437.out⟩, ⟨kB2 HB.out GE436.out GE437.out⟩⟩
   rw [if_neg c18] at H
   have c18b0 : decide (128 ≤ ((rd_T50 l0_13 x12_1).f0)) = false := decide_eq_false c18
   clear c18
   have H' := As H
   clear H
   have hnb23 := NB436_437.out
   have hnc23 := NB437_436.out
   have hcz24_0 := cells_15 BK436.out
   have hfz24_0 := fun j_ => blk_frozen BK436.out j_
   have p445 : 0 ≤ (x12_1 : Int) := of_decide_eq_true (by first | (with_reducible assumption) | assumption)
   have q445 : x12_1 < (l0_13.length : Int) := of_decide_eq_true (by first | (with_reducible assumption) | assumption)
   obtain ⟨ad445, e445, hx445_0, hx445_1⟩ := at_T50 HR0_13.out x12_1 p445 q445
   cases e445
   replace hx445_0 := hcell HB.out hx445_0
   replace hx445_1 := hcell HB.out hx445_1
   replace p445 := eq_true p445
   replace q445 := eq_true q445
   go_wp2
   go_roundg k1
   case measure => have := HK1.out; omega
   case rel => exact ⟨(x11_1), (wrap64 (x12_1 + 1)), kS, H', ⟨by have := HK1.out; omega⟩, ⟨by (with_reducible repeat (first | apply Kd.R_alloc | apply Kd.R_drewN | apply Kd.R_drew)); exact HO_11.out⟩, ⟨kb BK436.out⟩, ⟨kb BK437.out⟩, ⟨kB2 HB.out GE436.out GE437.out⟩⟩
  rw [if_neg c10] at H
  have c10b0 : decide (x12_1 < (l0_13.length : Int)) = false := decide_eq_false c10
  clear c10
  simp only [Option.some.injEq, Prod.mk.injEq] at H
  obtain ⟨rfl, rfl, rfl, rfl, rfl, rfl, rfl, rfl, rfl, rfl, rfl, rfl, rfl, rfl, rfl⟩ := H
  have hnb25 := NB436_437.out
  have hnc25 := NB437_436.out
  have hcz26_0 := cells_15 BK436.out
  have hfz26_0 := fun j_ => blk_frozen BK436.out j_
  obtain ⟨Ao27, co27, eo27⟩ := Kd.R_slice HO_11.out
  subst eo27
  go_wp2_with (first | ((with_reducible refine gate_dst (N := 48) rfl ?_); (try (refine gate_guard (by rfl) ?_; dsimp only)); refine wpList_load_row ?hgd 28 _ rfl gb436 rfl 28 #[.int .i64 d0, .int .i64 d1, .int .i64 d2, .int .i64 d3, .bool d4, .bool a3, .int .i64 a2, .bool d7, .int .u64 d8, .int .u64 d9, .bool d10, .int .u64 d11, .int .u64 d12, .slice Ao27 x11_1.length co27, .string a1] (0, 0) _ (by refine kb ?_; refine blk_put (cs := #[.int .i64 d0, .int .i64 d1, .int .i64 d2, .int .i64 d3, .bool d4, .bool d5, .int .i64 a2, .bool d7, .int .u64 d8, .int .u64 d9, .bool d10, .int .u64 d11, .int .u64 d12, .slice Ao27 x11_1.length co27, .string a1]) ?_ 5 _ rfl; refine kb ?_; refine blk_put (cs := #[.int .i64 d0, .int .i64 d1, .int .i64 d2, .int .i64 d3, .bool d4, .bool d5, .int .i64 d6, .bool d7, .int .u64 d8, .int .u64 d9, .bool d10, .int .u64 d11, .int .u64 d12, .slice Ao27 x11_1.length co27, .string a1]) ?_ 6 _ rfl; refine kb ?_; refine blk_put (cs := #[.int .i64 d0, .int .i64 d1, .int .i64 d2, .int .i64 d3, .bool d4, .bool d5, .int .i64 d6, .bool d7, .int .u64 d8, .int .u64 d9, .bool d10, .int .u64 d11, .int .u64 d12, .slice Ao27 x11_1.length co27, .string d14]) ?_ 14 _ rfl; refine kb ?_; refine blk_put (cs := #[.int .i64 d0, .int .i64 d1, .int .i64 d2, .int .i64 d3, .bool d4, .bool d5, .int .i64 d6, .bool d7, .int .u64 d8, .int .u64 d9, .bool d10, .int .u64 d11, .int .u64 d12, .slice A0_13 l0_13.length c0_13, .string d14]) ?_ 13 _ rfl; exact kb BK436.out) Try.underlying28 rfl (by kernel_rfl) ?_; (case hgd => rfl)) | ((with_reducible refine gate_store (t := 28) (p := 10) rfl ?_); refine store_rowev_15 gb437 (.int .i64 d0) (.int .i64 d1) (.int .i64 d2) (.int .i64 d3) (.bool d4) (.bool a3) (.int .i64 a2) (.bool d7) (.int .u64 d8) (.int .u64 d9) (.bool d10) (.int .u64 d11) (.int .u64 d12) (.slice Ao27 x11_1.length co27) (.string a1) ?hg (t := 28) (p := 10) (v := _) rfl ?hn ?hc2 ?hc3 (t' := 28) (cs := #[.int .i64 0, .int .i64 0, .int .i64 0, .int .i64 0, .bool false, .bool false, .int .i64 0, .bool false, .int .u64 0, .int .u64 0, .bool false, .int .u64 0, .int .u64 0, .slice none 0 0, .string (⟨#[]⟩ : ByteArray)]) ?hc4 ?hc5 ?hc6 ?hc7 ?_; (case hg => rfl); (case hn => rfl); (case hc2 => rfl); (case hc3 => rfl); (case hc4 => exact (by refine kb ?_; (iterate 4 (refine blk_far ?_ NB437_436.out _; refine kb ?_)); exact BK437.out)); (case hc5 => rfl); (case hc6 => kernel_rfl); (case hc7 => rfl)))
  refine bodyPost_ret (results_cell_row rfl _ _ gb437 28 #[.int .i64 d0, .int .i64 d1, .int .i64 d2, .int .i64 d3, .bool d4, .bool a3, .int .i64 a2, .bool d7, .int .u64 d8, .int .u64 d9, .bool d10, .int .u64 d11, .int .u64 d12, .slice Ao27 x11_1.length co27, .string a1] (0, 0) _ rfl (by refine kb ?_; refine blk_all_15 (cs := #[.int .i64 0, .int .i64 0, .int .i64 0, .int .i64 0, .bool false, .bool false, .int .i64 0, .bool false, .int .u64 0, .int .u64 0, .bool false, .int .u64 0, .int .u64 0, .slice none 0 0, .string (⟨#[]⟩ : ByteArray)]) ?_ rfl; refine kb ?_; (iterate 4 (refine blk_far ?_ NB437_436.out _; refine kb ?_)); exact BK437.out) Try.underlying28 rfl (by kernel_rfl)) rfl ?_
  exact ⟨_, kE, by (with_reducible repeat (first | apply Kd.R_alloc | apply Kd.R_drewN | apply Kd.R_drew)); exact Kd.R_mono (Kd.R_puts_0_15 gb437 (.int .i64 d0) (.int .i64 d1) (.int .i64 d2) (.int .i64 d3) (.bool d4) (.bool a3) (.int .i64 a2) (.bool d7) (.int .u64 d8) (.int .u64 d9) (.bool d10) (.int .u64 d11) (.int .u64 d12) (.slice Ao27 x11_1.length co27) (.string a1) (Kd.R_far (p := ⟨gb436, 5, none⟩) (Kd.R_far (p := ⟨gb436, 6, none⟩) (Kd.R_far (p := ⟨gb436, 14, none⟩) (Kd.R_far (p := ⟨gb436, 13, none⟩) (Kd.R_types (Kd.R_types HO_11.out BK436.out (by decide)) BK437.out (by decide)) (fun _ hk => hk.1.2) (.slice Ao27 x11_1.length co27)) (fun _ hk => hk.1.2) (.string a1)) (fun _ hk => hk.1.2) (.int .i64 a2)) (fun _ hk => hk.1.2) (.bool a3)) (fun _ hk => hk.2)) (fun _ hk => trivial), by exact kB2 HB.out GE436.out GE437.out⟩

end Go.Proofs.Ytobioaommmgehaa.Z
-- short
-- short2
