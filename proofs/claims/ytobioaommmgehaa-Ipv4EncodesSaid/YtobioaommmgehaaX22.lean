/- Functions and their walks, printed by xprint.py. -/
import Derived.Test.YtobioaommmgehaaX0
import Derived.Test.YtobioaommmgehaaX2
import Derived.Test.YtobioaommmgehaaX10
import Derived.Test.YtobioaommmgehaaX11
import Derived.Test.YtobioaommmgehaaX12
import Derived.Test.YtobioaommmgehaaX13
import Derived.Test.YtobioaommmgehaaX21
namespace Go.Proofs.Ytobioaommmgehaa.X
open Go.RowKit Go.Proofs.YtobioaommmgehaaW.PrintWords Go.Proofs.YtobioaommmgehaaW.PrintLast Go.Proofs.YtobioaommmgehaaW.PrintMore
attribute [local go_sem] max2_int min2_int max_two min_two max_three min_three max_four min_four   -- for this text's walks alone
set_option linter.unusedVariables false
set_option linter.unusedSimpArgs false

attribute [local go_sem high] eqA38
/-! ### intrusionref11_Fragment: function 18 -/
def intrusionref11_Fragment.f (b0 : Int) (b1 : Int) (b2 : Int) (b3 : Int) (b4 : Bool) (b5 : Bool) (b6 : Int) (b7 : Bool) (b8 : Int) (b9 : Int) (b10 : Bool) (b11 : Int) (b12 : Int) (l0_13 : List (S50)) (b14 : ByteArray) : Option (Bool × Int × Int × Bool × Int × Int × Int × Int × Int × Int × Bool × ByteArray) := some (b7, b8, b9, b10, b11, b12, b3, b1, b2, b6, b5, b14)
set_option maxHeartbeats 8000000 in
set_option maxRecDepth 100000 in
theorem intrusionref11_Fragment.calls (b0 : Int) (b1 : Int) (b2 : Int) (b3 : Int) (b4 : Bool) (b5 : Bool) (b6 : Int) (b7 : Bool) (b8 : Int) (b9 : Int) (b10 : Bool) (b11 : Int) (b12 : Int) (A0_13 : Option Addr) (c0_13 : Nat) (l0_13 : List (S50)) (b14 : ByteArray) (r1 : Bool) (r2 : Int) (r3 : Int) (r4 : Bool) (r5 : Int) (r6 : Int) (r7 : Int) (r8 : Int) (r9 : Int) (r10 : Int) (r11 : Bool) (r12 : ByteArray) (w : World) (hr0_13 : Kd.C k50 w A0_13 l0_13.length l0_13) (hc0_13 : l0_13.length ≤ c0_13) (h : intrusionref11_Fragment.f b0 b1 b2 b3 b4 b5 b6 b7 b8 b9 b10 b11 b12 l0_13 b14 = some (r1, r2, r3, r4, r5, r6, r7, r8, r9, r10, r11, r12)) :
  Calls Try.prog 18 #[.agg #[.int .i64 b0, .int .i64 b1, .int .i64 b2, .int .i64 b3, .bool b4, .bool b5, .int .i64 b6, .bool b7, .int .u64 b8, .int .u64 b9, .bool b10, .int .u64 b11, .int .u64 b12, .slice A0_13 l0_13.length c0_13, .string b14]] w fun e w' => e = .returned (.agg #[.bool r1, .int .u64 r2, .int .u64 r3, .bool r4, .int .u64 r5, .int .u64 r6, .int .i64 r7, .int .i64 r8, .int .i64 r9, .int .i64 r10, .bool r11, .string r12]) ∧ Below w.heap.size w w' := by
 have hu28 := Try.underlying28
 have hu38 := Try.underlying38
 have hu25 := Try.underlying25
 have HR0_13 := As hr0_13
 have HC0_13 := As hc0_13
 clear hr0_13 hc0_13
 have HB := As (Below.refl w.heap.size w)
 have H : (some (b7, b8, b9, b10, b11, b12, b3, b1, b2, b6, b5, b14)) = some (r1, r2, r3, r4, r5, r6, r7, r8, r9, r10, r11, r12) := h
 clear h
 simp only [Option.some.injEq, Prod.mk.injEq] at H
 obtain ⟨rfl, rfl, rfl, rfl, rfl, rfl, rfl, rfl, rfl, rfl, rfl, rfl⟩ := H
 go_enter Try.func18, Try.ntmps18
 go_wp2_with (first | ((with_reducible refine gate_dst (N := 1) rfl ?_); refine box_event rfl (N := 1) rfl (cs := #[.int .i64 b0, .int .i64 b1, .int .i64 b2, .int .i64 b3, .bool b4, .bool b5, .int .i64 b6, .bool b7, .int .u64 b8, .int .u64 b9, .bool b10, .int .u64 b11, .int .u64 b12, .slice A0_13 l0_13.length c0_13, .string b14]) (t := 28) kG ?_; intro gb505 hg w2 hbox hb; have BK505 := As (hbox); have GW505 := As (gS hg (below_size (kB HB.out))); have GE505 := As (gS hg (below_size (kB HB.out))); replace HB := As (below_step (kB HB.out) hb); clear hb hbox hg) | ((with_reducible refine gate_dst (N := 2) rfl ?_); refine box_event rfl (N := 2) rfl (cs := #[.bool false, .int .u64 0, .int .u64 0, .bool false, .int .u64 0, .int .u64 0, .int .i64 0, .int .i64 0, .int .i64 0, .int .i64 0, .bool false, .string (⟨#[]⟩ : ByteArray)]) (t := 38) kG ?_; intro gb506 hg w3 hbox hb; have BK506 := As (hbox); have GW506 := As (gS hg (below_size (kB1 HB.out GE505.out))); have GE506 := As (gS hg (below_size (kB1 HB.out GE505.out))); replace HB := As (below_step (kB1 HB.out GE505.out) hb); have NB505_506 := As (gN hg (blk_lt (kb BK505.out))); have NB506_505 := As (gM hg (blk_lt (kb BK505.out))); replace BK505 := As (blk_below (kb BK505.out) hb); clear hb hbox hg; have hnb4 := NB505_506.out; have hnc4 := NB506_505.out; have hcz5_0 := cells_15 BK505.out; have hfz5_0 := fun j_ => blk_frozen BK505.out j_) | ((with_reducible refine gate_store (t := 38) (p := 2) rfl ?_); refine store_rowev_12 gb506 (.bool b7) (.int .u64 b8) (.int .u64 b9) (.bool b10) (.int .u64 b11) (.int .u64 b12) (.int .i64 b3) (.int .i64 b1) (.int .i64 b2) (.int .i64 b6) (.bool b5) (.string b14) rfl (t := 38) (p := 2) (v := _) rfl rfl rfl rfl (t' := 38) (kb BK506.out) (by rfl) (by kernel_rfl) (by rfl) ?_))
 refine bodyPost_ret (results_cell_row rfl _ _ gb506 38 #[.bool b7, .int .u64 b8, .int .u64 b9, .bool b10, .int .u64 b11, .int .u64 b12, .int .i64 b3, .int .i64 b1, .int .i64 b2, .int .i64 b6, .bool b5, .string b14] (0, 0) _ rfl (by refine kb ?_; exact blk_all_12 (kb BK506.out) (by rfl)) Try.underlying38 rfl (by kernel_rfl)) rfl ?_
 exact ⟨kE, by exact kB2 HB.out GE505.out GE506.out⟩

/-! ### intrusionref11_Routed: function 20 -/
def intrusionref11_Routed.l0 : Nat → Int → Int → Int → Int → Int → Bool → Bool → Int → Bool → Int → Int → Bool → Int → Int → List (S50) → ByteArray → Option (Bool)
 | 0, _, _, _, _, _, _, _, _, _, _, _, _, _, _, _, _ => none
 | k + 1, x3, x508000, x508001, x508002, x508003, x508004, x508005, x508006, x508007, x508008, x508009, x508010, x508011, x508012, x508013, x508014 => if x3 < (x508013.length : Int) then (if 0 ≤ x3 then (if ((rd_T50 x508013 x3).f0) = 131 then (some true) else (if ((rd_T50 x508013 x3).f0) = 137 then (some true) else (intrusionref11_Routed.l0 k (wrap64 (x3 + 1)) x508000 x508001 x508002 x508003 x508004 x508005 x508006 x508007 x508008 x508009 x508010 x508011 x508012 x508013 x508014))) else (none)) else (some false)
def intrusionref11_Routed.f (k : Nat) (b0 : Int) (b1 : Int) (b2 : Int) (b3 : Int) (b4 : Bool) (b5 : Bool) (b6 : Int) (b7 : Bool) (b8 : Int) (b9 : Int) (b10 : Bool) (b11 : Int) (b12 : Int) (l0_13 : List (S50)) (b14 : ByteArray) : Option (Bool) := intrusionref11_Routed.l0 k 0 b0 b1 b2 b3 b4 b5 b6 b7 b8 b9 b10 b11 b12 l0_13 b14
theorem intrusionref11_Routed.mono_l : ∀ k, (∀ y0 y1 y2 y3 y4 y5 y6 y7 y8 y9 y10 y11 y12 y13 y14 y15, LeO (intrusionref11_Routed.l0 k y0 y1 y2 y3 y4 y5 y6 y7 y8 y9 y10 y11 y12 y13 y14 y15) (intrusionref11_Routed.l0 (k + 1) y0 y1 y2 y3 y4 y5 y6 y7 y8 y9 y10 y11 y12 y13 y14 y15))
 | 0 => fun _ _ _ _ _ _ _ _ _ _ _ _ _ _ _ _ r h => by simp [intrusionref11_Routed.l0] at h
 | k + 1 => by
  have ih0 := intrusionref11_Routed.mono_l k
  intro y0 y1 y2 y3 y4 y5 y6 y7 y8 y9 y10 y11 y12 y13 y14 y15
  unfold intrusionref11_Routed.l0
  repeat' first | with_reducible first | apply ih0 | apply LeO.refl | apply LeO.none | refine LeO.ite ?_ ?_ | refine LeO.bind ?_ (fun _ => ?_)
theorem intrusionref11_Routed.mono : ∀ a0 a1 a2 a3 a4 a5 a6 a7 a8 a9 a10 a11 a12 a13 a14 k, LeO (intrusionref11_Routed.f k a0 a1 a2 a3 a4 a5 a6 a7 a8 a9 a10 a11 a12 a13 a14) (intrusionref11_Routed.f (k + 1) a0 a1 a2 a3 a4 a5 a6 a7 a8 a9 a10 a11 a12 a13 a14) := by
 intro a0 a1 a2 a3 a4 a5 a6 a7 a8 a9 a10 a11 a12 a13 a14 k
 have ih0 := intrusionref11_Routed.mono_l k
 unfold intrusionref11_Routed.f
 repeat' first | with_reducible first | apply ih0 | apply LeO.refl | apply LeO.none | refine LeO.ite ?_ ?_ | refine LeO.bind ?_ (fun _ => ?_)
set_option maxHeartbeats 8000000 in
set_option maxRecDepth 100000 in
theorem intrusionref11_Routed.calls (k : Nat) (b0 : Int) (b1 : Int) (b2 : Int) (b3 : Int) (b4 : Bool) (b5 : Bool) (b6 : Int) (b7 : Bool) (b8 : Int) (b9 : Int) (b10 : Bool) (b11 : Int) (b12 : Int) (A0_13 : Option Addr) (c0_13 : Nat) (l0_13 : List (S50)) (b14 : ByteArray) (r : Bool) (w : World) (hr0_13 : Kd.C k50 w A0_13 l0_13.length l0_13) (hc0_13 : l0_13.length ≤ c0_13) (h : intrusionref11_Routed.f k b0 b1 b2 b3 b4 b5 b6 b7 b8 b9 b10 b11 b12 l0_13 b14 = some r) :
  Calls Try.prog 20 #[.agg #[.int .i64 b0, .int .i64 b1, .int .i64 b2, .int .i64 b3, .bool b4, .bool b5, .int .i64 b6, .bool b7, .int .u64 b8, .int .u64 b9, .bool b10, .int .u64 b11, .int .u64 b12, .slice A0_13 l0_13.length c0_13, .string b14]] w fun e w' => e = .returned (.bool r) ∧ Below w.heap.size w w' := by
 have hu28 := Try.underlying28
 have HR0_13 := As hr0_13
 have HC0_13 := As hc0_13
 clear hr0_13 hc0_13
 have HB := As (Below.refl w.heap.size w)
 have H : (intrusionref11_Routed.l0 k 0 b0 b1 b2 b3 b4 b5 b6 b7 b8 b9 b10 b11 b12 l0_13 b14) = some r := h
 clear h
 have H' := As H
 clear H
 go_enter Try.func20, Try.ntmps20
 go_wp2_with (first | ((with_reducible refine gate_dst (N := 1) rfl ?_); refine box_event rfl (N := 1) rfl (cs := #[.int .i64 b0, .int .i64 b1, .int .i64 b2, .int .i64 b3, .bool b4, .bool b5, .int .i64 b6, .bool b7, .int .u64 b8, .int .u64 b9, .bool b10, .int .u64 b11, .int .u64 b12, .slice A0_13 l0_13.length c0_13, .string b14]) (t := 28) kG ?_; intro gb507 hg w2 hbox hb; have BK507 := As (hbox); have GW507 := As (gS hg (below_size (kB HB.out))); have GE507 := As (gS hg (below_size (kB HB.out))); replace HB := As (below_step (kB HB.out) hb); clear hb hbox hg))
 go_loopg [3] k (fun kq v3 w' => ∃ (x3_1 : Int), v3 = .int .i64 x3_1 ∧ Aside0 (intrusionref11_Routed.l0 kq x3_1 b0 b1 b2 b3 b4 b5 b6 b7 b8 b9 b10 b11 b12 l0_13 b14 = some r) ∧ Aside0 (kq ≤ k) ∧ Aside0 (w'.heap[gb507]? = some (.cells #[.int .i64 b0, .int .i64 b1, .int .i64 b2, .int .i64 b3, .bool b4, .bool b5, .int .i64 b6, .bool b7, .int .u64 b8, .int .u64 b9, .bool b10, .int .u64 b11, .int .u64 b12, (.slice A0_13 l0_13.length c0_13), .string b14] 28 (0, 0))) ∧ Aside0 (Below w.heap.size w w'))
 case atStart => exact ⟨(0), kS, H', ⟨Nat.le_refl _⟩, ⟨kb BK507.out⟩, ⟨kB1 HB.out GE507.out⟩⟩
 clear H'
 obtain ⟨x3_1, rfl, HA, HK1, BK507, HB⟩ := hrel
 cases gk with
 | zero => exact absurd HA.out (by simp [intrusionref11_Routed.l0])
 | succ k1 =>
  have H := HA.out
  clear HA
  simp only [intrusionref11_Routed.l0] at H
  by_cases c3 : x3_1 < (l0_13.length : Int)
  ·rw [if_pos c3] at H
   have c3b0 : decide (x3_1 < (l0_13.length : Int)) = true := decide_eq_true c3
   clear c3
   replace H := iS H
   obtain ⟨c4, H⟩ := H
   have c4b0 := decide_eq_true c4
   clear c4
   by_cases c5 : ((rd_T50 l0_13 x3_1).f0) = 131
   ·rw [if_pos c5] at H
    have c5b0 : (((rd_T50 l0_13 x3_1).f0) == 131) = true := beq_iff_eq.mpr c5
    have c5b1 : (((rd_T50 l0_13 x3_1).f0) != 131) = false := bne_eq_false_iff_eq.mpr c5
    clear c5
    obtain rfl := Option.some.inj H
    have hcz6_0 := cells_15 BK507.out
    have hfz6_0 := fun j_ => blk_frozen BK507.out j_
    have p508 : 0 ≤ (x3_1 : Int) := of_decide_eq_true (by first | (with_reducible assumption) | assumption)
    have q508 : x3_1 < (l0_13.length : Int) := of_decide_eq_true (by first | (with_reducible assumption) | assumption)
    obtain ⟨ad508, e508, hx508_0, hx508_1⟩ := at_T50 HR0_13.out x3_1 p508 q508
    cases e508
    replace hx508_0 := hcell HB.out hx508_0
    replace hx508_1 := hcell HB.out hx508_1
    replace p508 := eq_true p508
    replace q508 := eq_true q508
    go_wp2
    go_ret
    exact ⟨kE, by exact kB1 HB.out GE507.out⟩
   rw [if_neg c5] at H
   have c5b0 : (((rd_T50 l0_13 x3_1).f0) == 131) = false := beq_eq_false_iff_ne.mpr c5
   have c5b1 : (((rd_T50 l0_13 x3_1).f0) != 131) = true := bne_iff_ne.mpr c5
   by_cases c7 : ((rd_T50 l0_13 x3_1).f0) = 137
   ·rw [if_pos c7] at H
    have c7b0 : (((rd_T50 l0_13 x3_1).f0) == 137) = true := beq_iff_eq.mpr c7
    have c7b1 : (((rd_T50 l0_13 x3_1).f0) != 137) = false := bne_eq_false_iff_eq.mpr c7
    clear c7
    obtain rfl := Option.some.inj H
    have hcz8_0 := cells_15 BK507.out
    have hfz8_0 := fun j_ => blk_frozen BK507.out j_
    have p508 : 0 ≤ (x3_1 : Int) := of_decide_eq_true (by first | (with_reducible assumption) | assumption)
    have q508 : x3_1 < (l0_13.length : Int) := of_decide_eq_true (by first | (with_reducible assumption) | assumption)
    obtain ⟨ad508, e508, hx508_0, hx508_1⟩ := at_T50 HR0_13.out x3_1 p508 q508
    cases e508
    replace hx508_0 := hcell HB.out hx508_0
    replace hx508_1 := hcell HB.out hx508_1
    replace p508 := eq_true p508
    replace q508 := eq_true q508
    have p509 : 0 ≤ (x3_1 : Int) := of_decide_eq_true (by first | (with_reducible assumption) | assumption)
    have q509 : x3_1 < (l0_13.length : Int) := of_decide_eq_true (by first | (with_reducible assumption) | assumption)
    obtain ⟨ad509, e509, hx509_0, hx509_1⟩ := at_T50 HR0_13.out x3_1 p509 q509
    obtain rfl : ad508 = ad509 := (by injection e509)
    replace hx509_0 := hcell HB.out hx509_0
    replace hx509_1 := hcell HB.out hx509_1
    replace p509 := eq_true p509
    replace q509 := eq_true q509
    go_wp2
    go_ret
    exact ⟨kE, by exact kB1 HB.out GE507.out⟩
   rw [if_neg c7] at H
   have c7b0 : (((rd_T50 l0_13 x3_1).f0) == 137) = false := beq_eq_false_iff_ne.mpr c7
   have c7b1 : (((rd_T50 l0_13 x3_1).f0) != 137) = true := bne_iff_ne.mpr c7
   have H' := As H
   clear H
   have hcz9_0 := cells_15 BK507.out
   have hfz9_0 := fun j_ => blk_frozen BK507.out j_
   have p508 : 0 ≤ (x3_1 : Int) := of_decide_eq_true (by first | (with_reducible assumption) | assumption)
   have q508 : x3_1 < (l0_13.length : Int) := of_decide_eq_true (by first | (with_reducible assumption) | assumption)
   obtain ⟨ad508, e508, hx508_0, hx508_1⟩ := at_T50 HR0_13.out x3_1 p508 q508
   cases e508
   replace hx508_0 := hcell HB.out hx508_0
   replace hx508_1 := hcell HB.out hx508_1
   replace p508 := eq_true p508
   replace q508 := eq_true q508
   have p509 : 0 ≤ (x3_1 : Int) := of_decide_eq_true (by first | (with_reducible assumption) | assumption)
   have q509 : x3_1 < (l0_13.length : Int) := of_decide_eq_true (by first | (with_reducible assumption) | assumption)
   obtain ⟨ad509, e509, hx509_0, hx509_1⟩ := at_T50 HR0_13.out x3_1 p509 q509
   obtain rfl : ad508 = ad509 := (by injection e509)
   replace hx509_0 := hcell HB.out hx509_0
   replace hx509_1 := hcell HB.out hx509_1
   replace p509 := eq_true p509
   replace q509 := eq_true q509
   go_wp2
   go_roundg k1
   case measure => have := HK1.out; omega
   case rel => exact ⟨(wrap64 (x3_1 + 1)), kS, H', ⟨by have := HK1.out; omega⟩, ⟨kb BK507.out⟩, ⟨kB1 HB.out GE507.out⟩⟩
  rw [if_neg c3] at H
  have c3b0 : decide (x3_1 < (l0_13.length : Int)) = false := decide_eq_false c3
  clear c3
  obtain rfl := Option.some.inj H
  have hcz10_0 := cells_15 BK507.out
  have hfz10_0 := fun j_ => blk_frozen BK507.out j_
  go_wp2
  go_ret
  exact ⟨kE, by exact kB1 HB.out GE507.out⟩

/-! ### intrusionlaw11_Ipv4Encodes: function 4 -/
def intrusionlaw11_Ipv4Encodes.f (k : Nat) (b0 : Int) (b1 : Int) (b2 : Int) (b3 : Int) (b4 : Bool) (b5 : Bool) (b6 : Int) (b7 : Bool) (b8 : Int) (b9 : Int) (b10 : Bool) (b11 : Int) (b12 : Int) (l0_13 : List (S50)) (b14 : ByteArray) : Option (Bool) := (intrusionlaw11_large.f b0 b1 b2 b3 b4 b5 b6 b7 b8 b9 b10 b11 b12 l0_13 b14).bind fun t511 => (if t511 = true then ((intrusionlaw11_awake.f k).bind fun t512 => (some t512)) else ((ipv4_Encode.f k b0 b1 b2 b3 b4 b5 b6 b7 b8 b9 b10 b11 b12 l0_13 b14).bind fun bt513 => ((intrusionref11_Encode.f k b0 b1 b2 b3 b4 b5 b6 b7 b8 b9 b10 b11 b12 l0_13 b14).bind fun bt515 => (if bt513.1.toList = bt515.1.toList then (if bt513.2 = bt515.2 then ((ipv4_Fragment.f b0 b1 b2 b3 b4 b5 b6 b7 b8 b9 b10 b11 b12 l0_13 b14).bind fun bt517 => ((intrusionref11_Fragment.f b0 b1 b2 b3 b4 b5 b6 b7 b8 b9 b10 b11 b12 l0_13 b14).bind fun bt529 => (if ((bt517.1 == bt529.1 && (bt517.2.1 == bt529.2.1 && (bt517.2.2.1 == bt529.2.2.1))) && ((bt517.2.2.2.1 == bt529.2.2.2.1 && (bt517.2.2.2.2.1 == bt529.2.2.2.2.1 && (bt517.2.2.2.2.2.1 == bt529.2.2.2.2.2.1))) && (bt517.2.2.2.2.2.2.1 == bt529.2.2.2.2.2.2.1 && (bt517.2.2.2.2.2.2.2.1 == bt529.2.2.2.2.2.2.2.1 && (bt517.2.2.2.2.2.2.2.2.1 == bt529.2.2.2.2.2.2.2.2.1 && (bt517.2.2.2.2.2.2.2.2.2.1 == bt529.2.2.2.2.2.2.2.2.2.1 && (bt517.2.2.2.2.2.2.2.2.2.2.1 == bt529.2.2.2.2.2.2.2.2.2.2.1 && (bt517.2.2.2.2.2.2.2.2.2.2.2.toList == bt529.2.2.2.2.2.2.2.2.2.2.2.toList)))))))) = true then ((ipv4_Routed.f k b0 b1 b2 b3 b4 b5 b6 b7 b8 b9 b10 b11 b12 l0_13 b14).bind fun t541 => ((intrusionref11_Routed.f k b0 b1 b2 b3 b4 b5 b6 b7 b8 b9 b10 b11 b12 l0_13 b14).bind fun t542 => (if (t541 == t542) = true then ((intrusionlaw11_awake.f k).bind fun t543 => (some t543)) else (none)))) else (none)))) else (none)) else (none)))))
theorem intrusionlaw11_Ipv4Encodes.mono : ∀ a0 a1 a2 a3 a4 a5 a6 a7 a8 a9 a10 a11 a12 a13 a14 k, LeO (intrusionlaw11_Ipv4Encodes.f k a0 a1 a2 a3 a4 a5 a6 a7 a8 a9 a10 a11 a12 a13 a14) (intrusionlaw11_Ipv4Encodes.f (k + 1) a0 a1 a2 a3 a4 a5 a6 a7 a8 a9 a10 a11 a12 a13 a14) := by
 intro a0 a1 a2 a3 a4 a5 a6 a7 a8 a9 a10 a11 a12 a13 a14 k
 unfold intrusionlaw11_Ipv4Encodes.f
 repeat' first | with_reducible first | apply intrusionlaw11_awake.mono | apply intrusionref11_Encode.mono | apply intrusionref11_Routed.mono | apply ipv4_Encode.mono | apply ipv4_Routed.mono | apply LeO.refl | apply LeO.none | refine LeO.ite ?_ ?_ | refine LeO.bind ?_ (fun _ => ?_)
def intrusionlaw11_Ipv4Encodes.T5 : Bool × List (List Nat × List Nat) := (true, [([], []), ([], []), ([0, 1], [0, 1]), ([2], [2]), ([3], [3]), ([3], [3]), ([4, 5, 3], [3, 4, 5]), ([3, 6], [3, 6]), ([7, 3], [7]), ([8], [8]), ([9, 8, 8], [8, 9]), ([8], [8]), ([11, 10, 8], [8, 11]), ([10, 12, 8], [8, 10, 12]), ([8, 13], [8, 13]), ([14, 12], [14]), ([15], [15]), ([16, 15, 15], [15, 16]), ([15], [15]), ([18, 17, 15], [15, 18]), ([17, 19, 15], [15, 17, 19]), ([15, 20], [15, 20]), ([21, 19], [21]), ([22, 22], [22]), ([22, 23], [22, 23]), ([24, 23, 0, 1, 2, 3, 4, 5, 6, 7, 8, 9, 10, 11, 12, 13, 14, 15, 16, 17, 18, 19, 20, 21, 22, 23, 24], [24])])
def intrusionlaw11_Ipv4Encodes.B5 : List Nat := [0, 0, 3, 7, 15, 15, 63, 127, 255, 511, 1023, 511, 4095, 8191, 16383, 32767, 65535, 131071, 65535, 524287, 1048575, 2097151, 4194303, 8388607, 16777215, 33554431]
theorem intrusionlaw11_Ipv4Encodes.tab5 : rtab .any (opsOf Try.f4 5) = intrusionlaw11_Ipv4Encodes.T5 := by kernel_rfl
theorem intrusionlaw11_Ipv4Encodes.bits5 : waitsOk intrusionlaw11_Ipv4Encodes.T5.2 intrusionlaw11_Ipv4Encodes.B5 = true := by kernel_rfl
set_option maxHeartbeats 8000000 in
set_option maxRecDepth 100000 in
theorem intrusionlaw11_Ipv4Encodes.calls (k : Nat) (b0 : Int) (b1 : Int) (b2 : Int) (b3 : Int) (b4 : Bool) (b5 : Bool) (b6 : Int) (b7 : Bool) (b8 : Int) (b9 : Int) (b10 : Bool) (b11 : Int) (b12 : Int) (A0_13 : Option Addr) (c0_13 : Nat) (l0_13 : List (S50)) (b14 : ByteArray) (r : Bool) (w : World) (hr0_13 : Kd.C k50 w A0_13 l0_13.length l0_13) (hc0_13 : l0_13.length ≤ c0_13) (h : intrusionlaw11_Ipv4Encodes.f k b0 b1 b2 b3 b4 b5 b6 b7 b8 b9 b10 b11 b12 l0_13 b14 = some r) :
  Calls Try.prog 4 #[.agg #[.int .i64 b0, .int .i64 b1, .int .i64 b2, .int .i64 b3, .bool b4, .bool b5, .int .i64 b6, .bool b7, .int .u64 b8, .int .u64 b9, .bool b10, .int .u64 b11, .int .u64 b12, .slice A0_13 l0_13.length c0_13, .string b14]] w fun e w' => e = .returned (.bool r) ∧ Below w.heap.size w w' := by
 have hu28 := Try.underlying28
 have HR0_13 := As hr0_13
 have HC0_13 := As hc0_13
 clear hr0_13 hc0_13
 have HB := As (Below.refl w.heap.size w)
 have H : ((intrusionlaw11_large.f b0 b1 b2 b3 b4 b5 b6 b7 b8 b9 b10 b11 b12 l0_13 b14).bind fun t511 => (if t511 = true then ((intrusionlaw11_awake.f k).bind fun t512 => (some t512)) else ((ipv4_Encode.f k b0 b1 b2 b3 b4 b5 b6 b7 b8 b9 b10 b11 b12 l0_13 b14).bind fun bt513 => ((intrusionref11_Encode.f k b0 b1 b2 b3 b4 b5 b6 b7 b8 b9 b10 b11 b12 l0_13 b14).bind fun bt515 => (if bt513.1.toList = bt515.1.toList then (if bt513.2 = bt515.2 then ((ipv4_Fragment.f b0 b1 b2 b3 b4 b5 b6 b7 b8 b9 b10 b11 b12 l0_13 b14).bind fun bt517 => ((intrusionref11_Fragment.f b0 b1 b2 b3 b4 b5 b6 b7 b8 b9 b10 b11 b12 l0_13 b14).bind fun bt529 => (if ((bt517.1 == bt529.1 && (bt517.2.1 == bt529.2.1 && (bt517.2.2.1 == bt529.2.2.1))) && ((bt517.2.2.2.1 == bt529.2.2.2.1 && (bt517.2.2.2.2.1 == bt529.2.2.2.2.1 && (bt517.2.2.2.2.2.1 == bt529.2.2.2.2.2.1))) && (bt517.2.2.2.2.2.2.1 == bt529.2.2.2.2.2.2.1 && (bt517.2.2.2.2.2.2.2.1 == bt529.2.2.2.2.2.2.2.1 && (bt517.2.2.2.2.2.2.2.2.1 == bt529.2.2.2.2.2.2.2.2.1 && (bt517.2.2.2.2.2.2.2.2.2.1 == bt529.2.2.2.2.2.2.2.2.2.1 && (bt517.2.2.2.2.2.2.2.2.2.2.1 == bt529.2.2.2.2.2.2.2.2.2.2.1 && (bt517.2.2.2.2.2.2.2.2.2.2.2.toList == bt529.2.2.2.2.2.2.2.2.2.2.2.toList)))))))) = true then ((ipv4_Routed.f k b0 b1 b2 b3 b4 b5 b6 b7 b8 b9 b10 b11 b12 l0_13 b14).bind fun t541 => ((intrusionref11_Routed.f k b0 b1 b2 b3 b4 b5 b6 b7 b8 b9 b10 b11 b12 l0_13 b14).bind fun t542 => (if (t541 == t542) = true then ((intrusionlaw11_awake.f k).bind fun t543 => (some t543)) else (none)))) else (none)))) else (none)) else (none)))))) = some r := h
 clear h
 replace H := bS H
 obtain ⟨t511, A2, H⟩ := H
 by_cases c3 : t511 = true
 ·subst c3
  rw [if_pos rfl] at H
  replace H := bS H
  obtain ⟨t512, A4, H⟩ := H
  obtain rfl := Option.some.inj H
  go_enter Try.func4, Try.ntmps4
  go_wp2_with (first | ((with_reducible refine gate_dst (N := 1) rfl ?_); refine box_event rfl (N := 1) rfl (cs := #[.int .i64 b0, .int .i64 b1, .int .i64 b2, .int .i64 b3, .bool b4, .bool b5, .int .i64 b6, .bool b7, .int .u64 b8, .int .u64 b9, .bool b10, .int .u64 b11, .int .u64 b12, .slice A0_13 l0_13.length c0_13, .string b14]) (t := 28) kG ?_; intro gb510 hg w5 hbox hb; have BK510 := As (hbox); have GW510 := As (gS hg (below_size (kB HB.out))); have GE510 := As (gS hg (below_size (kB HB.out))); replace HB := As (below_step (kB HB.out) hb); clear hb hbox hg) | ((with_reducible refine gate_dst (N := 7) rfl ?_); (try (refine gate_guard (by rfl) ?_; dsimp only)); refine wpList_load_row rfl 28 _ rfl gb510 rfl 28 _ (0, 0) _ (kb BK510.out) Try.underlying28 rfl (by kernel_rfl) ?_) | ((with_reducible refine gate_callee (f := 14) rfl ?_); refine goesL_ (some 8) rfl rfl Try.func14 (by kernel_rfl) rfl #[.agg #[.int .i64 b0, .int .i64 b1, .int .i64 b2, .int .i64 b3, .bool b4, .bool b5, .int .i64 b6, .bool b7, .int .u64 b8, .int .u64 b9, .bool b10, .int .u64 b11, .int .u64 b12, .slice A0_13 l0_13.length c0_13, .string b14]] rfl kA ?_; (with_reducible refine (intrusionlaw11_large.calls b0 b1 b2 b3 b4 b5 b6 b7 b8 b9 b10 b11 b12 _ _ l0_13 b14 true _ ?side1 ?side2 A2.out).mono ?_); (case side1 => repeat (first | exact (Kd.C_below HR0_13.out HB.out) | (with_reducible refine Kd.C_alloc ?_ _) | (with_reducible refine Kd.C_drewN ?_ _) | (with_reducible refine Kd.C_drew ?_))); (case side2 => exact HC0_13.out); rintro e w6 ⟨rfl, hb⟩; refine ⟨_, rfl, ?_⟩; replace BK510 := As (blk_below (kb BK510.out) hb); replace HB := As (below_step (kB1 HB.out GE510.out) hb); (try clear hb)) | ((with_reducible refine gate_callee (f := 10) rfl ?_); refine goesL_ (some 9) rfl rfl Try.func10 (by kernel_rfl) rfl #[] rfl kA ?_; (with_reducible refine (intrusionlaw11_awake.calls k  t512 _ A4.out).mono ?_); rintro e w7 ⟨rfl, hb⟩; refine ⟨_, rfl, ?_⟩; replace BK510 := As (blk_below (kb BK510.out) hb); replace HB := As (below_step (kB1 HB.out GE510.out) hb); (try clear hb)))
  go_ret
  exact ⟨kE, by exact kB1 HB.out GE510.out⟩
 replace c3 := Bool.eq_false_iff.mpr c3
 subst c3
 rw [if_neg (show ¬ (false = true) by decide)] at H
 replace H := bS H
 obtain ⟨⟨t513, t514⟩, A8, H⟩ := H
 try dsimp -simprocs only at H
 replace H := bS H
 obtain ⟨⟨t515, t516⟩, A9, H⟩ := H
 try dsimp -simprocs only at H
 by_cases c10 : t513.toList = t515.toList
 ·rw [if_pos c10] at H
  have c10b0 : (t513.toList == t515.toList) = true := beq_iff_eq.mpr c10
  have c10b1 : (t513.toList != t515.toList) = false := bne_eq_false_iff_eq.mpr c10
  clear c10
  by_cases c11 : t514 = t516
  ·rw [if_pos c11] at H
   have c11b0 : (t514 == t516) = true := beq_iff_eq.mpr c11
   have c11b1 : (t514 != t516) = false := bne_eq_false_iff_eq.mpr c11
   clear c11
   replace H := bS H
   obtain ⟨⟨t517, t518, t519, t520, t521, t522, t523, t524, t525, t526, t527, t528⟩, A12, H⟩ := H
   try dsimp -simprocs only at H
   replace H := bS H
   obtain ⟨⟨t529, t530, t531, t532, t533, t534, t535, t536, t537, t538, t539, t540⟩, A13, H⟩ := H
   try dsimp -simprocs only at H
   by_cases c14 : ((t517 == t529 && (t518 == t530 && (t519 == t531))) && ((t520 == t532 && (t521 == t533 && (t522 == t534))) && (t523 == t535 && (t524 == t536 && (t525 == t537 && (t526 == t538 && (t527 == t539 && (t528.toList == t540.toList)))))))) = true
   ·rw [if_pos c14] at H
    have c14b0 : ((t517 == t529 && (t518 == t530 && (t519 == t531))) && ((t520 == t532 && (t521 == t533 && (t522 == t534))) && (t523 == t535 && (t524 == t536 && (t525 == t537 && (t526 == t538 && (t527 == t539 && (t528.toList == t540.toList)))))))) = true := c14
    clear c14
    replace H := bS H
    obtain ⟨t541, A15, H⟩ := H
    replace H := bS H
    obtain ⟨t542, A16, H⟩ := H
    by_cases c17 : (t541 == t542) = true
    ·rw [if_pos c17] at H
     have c17b0 : (t541 == t542) = true := c17
     (try (have c17b1 : decide (t541 = t542) = true := by simpa using c17))
     (try (have c17b2 : (t541 == t542) = true := by simpa using c17))
     clear c17
     replace H := bS H
     obtain ⟨t543, A18, H⟩ := H
     obtain rfl := Option.some.inj H
     go_enter Try.func4, Try.ntmps4
     try go_wp2_with (first | ((with_reducible refine gate_dst (N := 1) rfl ?_); refine box_event rfl (N := 1) rfl (cs := #[.int .i64 b0, .int .i64 b1, .int .i64 b2, .int .i64 b3, .bool b4, .bool b5, .int .i64 b6, .bool b7, .int .u64 b8, .int .u64 b9, .bool b10, .int .u64 b11, .int .u64 b12, .slice A0_13 l0_13.length c0_13, .string b14]) (t := 28) kG ?_; intro gb510 hg w19 hbox hb; have BK510 := As (hbox); have GW510 := As (gS hg (below_size (kB HB.out))); have GE510 := As (gS hg (below_size (kB HB.out))); replace HB := As (below_step (kB HB.out) hb); clear hb hbox hg) | ((with_reducible refine gate_dst (N := 7) rfl ?_); (try (refine gate_guard (by rfl) ?_; dsimp only)); refine wpList_load_row rfl 28 _ rfl gb510 rfl 28 _ (0, 0) _ (kb BK510.out) Try.underlying28 rfl (by kernel_rfl) ?_) | ((with_reducible refine gate_callee (f := 14) rfl ?_); refine goesL_ (some 8) rfl rfl Try.func14 (by kernel_rfl) rfl #[.agg #[.int .i64 b0, .int .i64 b1, .int .i64 b2, .int .i64 b3, .bool b4, .bool b5, .int .i64 b6, .bool b7, .int .u64 b8, .int .u64 b9, .bool b10, .int .u64 b11, .int .u64 b12, .slice A0_13 l0_13.length c0_13, .string b14]] rfl kA ?_; (with_reducible refine (intrusionlaw11_large.calls b0 b1 b2 b3 b4 b5 b6 b7 b8 b9 b10 b11 b12 _ _ l0_13 b14 false _ ?side1 ?side2 A2.out).mono ?_); (case side1 => repeat (first | exact (Kd.C_below HR0_13.out HB.out) | (with_reducible refine Kd.C_alloc ?_ _) | (with_reducible refine Kd.C_drewN ?_ _) | (with_reducible refine Kd.C_drew ?_))); (case side2 => exact HC0_13.out); rintro e w20 ⟨rfl, hb⟩; refine ⟨_, rfl, ?_⟩; replace BK510 := As (blk_below (kb BK510.out) hb); replace HB := As (below_step (kB1 HB.out GE510.out) hb); (try clear hb)) | ((with_reducible refine gate_dst (N := 11) rfl ?_); (try (refine gate_guard (by rfl) ?_; dsimp only)); refine wpList_load_row rfl 28 _ rfl gb510 rfl 28 _ (0, 0) _ (kb BK510.out) Try.underlying28 rfl (by kernel_rfl) ?_) | ((with_reducible refine gate_callee (f := 15) rfl ?_); refine goesL_ (some 12) rfl rfl Try.func15 (by kernel_rfl) rfl #[.agg #[.int .i64 b0, .int .i64 b1, .int .i64 b2, .int .i64 b3, .bool b4, .bool b5, .int .i64 b6, .bool b7, .int .u64 b8, .int .u64 b9, .bool b10, .int .u64 b11, .int .u64 b12, .slice A0_13 l0_13.length c0_13, .string b14]] rfl kA ?_; (with_reducible refine (ipv4_Encode.calls k b0 b1 b2 b3 b4 b5 b6 b7 b8 b9 b10 b11 b12 _ _ l0_13 b14 t513 t514 _ ?side1 ?side2 A8.out).mono ?_); (case side1 => repeat (first | exact (Kd.C_below HR0_13.out HB.out) | (with_reducible refine Kd.C_alloc ?_ _) | (with_reducible refine Kd.C_drewN ?_ _) | (with_reducible refine Kd.C_drew ?_))); (case side2 => exact HC0_13.out); rintro e w21 ⟨rfl, hb⟩; refine ⟨_, rfl, ?_⟩; replace BK510 := As (blk_below (kb BK510.out) hb); replace HB := As (below_step (kB1 HB.out GE510.out) hb); (try clear hb)) | ((with_reducible refine gate_dst (N := 16) rfl ?_); (try (refine gate_guard (by rfl) ?_; dsimp only)); refine wpList_load_row rfl 28 _ rfl gb510 rfl 28 _ (0, 0) _ (kb BK510.out) Try.underlying28 rfl (by kernel_rfl) ?_) | ((with_reducible refine gate_callee (f := 16) rfl ?_); refine goesL_ (some 17) rfl rfl Try.func16 (by kernel_rfl) rfl #[.agg #[.int .i64 b0, .int .i64 b1, .int .i64 b2, .int .i64 b3, .bool b4, .bool b5, .int .i64 b6, .bool b7, .int .u64 b8, .int .u64 b9, .bool b10, .int .u64 b11, .int .u64 b12, .slice A0_13 l0_13.length c0_13, .string b14]] rfl kA ?_; (with_reducible refine (intrusionref11_Encode.calls k b0 b1 b2 b3 b4 b5 b6 b7 b8 b9 b10 b11 b12 _ _ l0_13 b14 t515 t516 _ ?side1 ?side2 A9.out).mono ?_); (case side1 => repeat (first | exact (Kd.C_below HR0_13.out HB.out) | (with_reducible refine Kd.C_alloc ?_ _) | (with_reducible refine Kd.C_drewN ?_ _) | (with_reducible refine Kd.C_drew ?_))); (case side2 => exact HC0_13.out); rintro e w22 ⟨rfl, hb⟩; refine ⟨_, rfl, ?_⟩; replace BK510 := As (blk_below (kb BK510.out) hb); replace HB := As (below_step (kB1 HB.out GE510.out) hb); (try clear hb)))
     replace BK510 := As (blk_drew BK510.out)
     replace HB := As (below_drew1 HB.out)
     refine start_ (n := 26) (S := fun w' => w'.cell? ⟨gb510, 0, none⟩ = some (.int .i64 b0) ∧ w'.cell? ⟨gb510, 1, none⟩ = some (.int .i64 b1) ∧ w'.cell? ⟨gb510, 2, none⟩ = some (.int .i64 b2) ∧ w'.cell? ⟨gb510, 3, none⟩ = some (.int .i64 b3) ∧ w'.cell? ⟨gb510, 4, none⟩ = some (.bool b4) ∧ w'.cell? ⟨gb510, 5, none⟩ = some (.bool b5) ∧ w'.cell? ⟨gb510, 6, none⟩ = some (.int .i64 b6) ∧ w'.cell? ⟨gb510, 7, none⟩ = some (.bool b7) ∧ w'.cell? ⟨gb510, 8, none⟩ = some (.int .u64 b8) ∧ w'.cell? ⟨gb510, 9, none⟩ = some (.int .u64 b9) ∧ w'.cell? ⟨gb510, 10, none⟩ = some (.bool b10) ∧ w'.cell? ⟨gb510, 11, none⟩ = some (.int .u64 b11) ∧ w'.cell? ⟨gb510, 12, none⟩ = some (.int .u64 b12) ∧ w'.cell? ⟨gb510, 13, none⟩ = some (.slice A0_13 l0_13.length c0_13) ∧ w'.cell? ⟨gb510, 14, none⟩ = some (.string b14)) (ds := []) #[O, O, O, O, O, O, O, O, O, O, O, O, O, O, O, O, O, O, O, O, O, O, O, O, O, O] (by kernel_rfl) rfl rfl ⟨kC BK510.out 0, kC BK510.out 1, kC BK510.out 2, kC BK510.out 3, kC BK510.out 4, kC BK510.out 5, kC BK510.out 6, kC BK510.out 7, kC BK510.out 8, kC BK510.out 9, kC BK510.out 10, kC BK510.out 11, kC BK510.out 12, kC BK510.out 13, kC BK510.out 14⟩ (fun hHeld => ?_); refine with_tabW intrusionlaw11_Ipv4Encodes.tab5 intrusionlaw11_Ipv4Encodes.bits5 (fun HT_ HW_ => ?_)
     generalize w22.drew = w23 at BK510 HB hHeld ⊢
     refine kP 0 20 #[I, O, O, O, O, O, O, O, O, O, O, O, O, O, O, O, O, O, O, O, O, O, O, O, O, O] ?_ (any_of HT_.out (by kernel_rfl))
     refine kP 1 21 #[I, I, O, O, O, O, O, O, O, O, O, O, O, O, O, O, O, O, O, O, O, O, O, O, O, O] ?_ (any_of HT_.out (by kernel_rfl))
     refine kP 2 22 #[I, I, I, O, O, O, O, O, O, O, O, O, O, O, O, O, O, O, O, O, O, O, O, O, O, O] ?_ (any_of HT_.out (by kernel_rfl))
     refine kP 3 23 #[I, I, I, I, O, O, O, O, O, O, O, O, O, O, O, O, O, O, O, O, O, O, O, O, O, O] ?_ (any_of HT_.out (by kernel_rfl))
     refine kP 4 24 #[I, I, I, I, I, O, O, O, O, O, O, O, O, O, O, O, O, O, O, O, O, O, O, O, O, O] ?_ (any_of HT_.out (by kernel_rfl))
     refine kP 5 25 #[I, I, I, I, I, I, O, O, O, O, O, O, O, O, O, O, O, O, O, O, O, O, O, O, O, O] ?_ (any_of HT_.out (by kernel_rfl))
     refine kP 6 26 #[I, I, I, I, I, I, I, O, O, O, O, O, O, O, O, O, O, O, O, O, O, O, O, O, O, O] ?_ (any_of HT_.out (by kernel_rfl))
     refine kP 7 27 #[I, I, I, I, I, I, I, I, O, O, O, O, O, O, O, O, O, O, O, O, O, O, O, O, O, O] ?_ (any_of HT_.out (by kernel_rfl))
     refine kP 8 28 #[I, I, I, I, I, I, I, I, I, O, O, O, O, O, O, O, O, O, O, O, O, O, O, O, O, O] ?_ (any_of HT_.out (by kernel_rfl))
     refine take_ (i := 9) (N := some 29) (v := ?_) (a' := ?_) #[I, I, I, I, I, I, I, I, I, I, O, O, O, O, O, O, O, O, O, O, O, O, O, O, O, O] rfl rfl (take_ofW HT_.out HW_.out (by kernel_rfl)) (fun _ _ _ h => h) (Or.inl ⟨by rfl, ?_⟩) hHeld ?_ ?_
     rotate_left
     ·rintro w' ⟨s0, s1, s2, s3, s4, s5, s6, s7, s8, s9, s10, s11, s12, s13, s14⟩
      go_simp
      with_reducible rfl
     rotate_left
     ·simp only [Act.put, sA, sZ, sS, i64_w, i32_w]
      rfl
     refine take_ (i := 11) (N := some 31) (v := ?_) (a' := ?_) #[I, I, I, I, I, I, I, I, I, I, O, I, O, O, O, O, O, O, O, O, O, O, O, O, O, O] rfl rfl (take_ofW HT_.out HW_.out (by kernel_rfl)) (fun _ _ _ h => h) (Or.inl ⟨by rfl, ?_⟩) hHeld ?_ ?_
     rotate_left
     ·rintro w' ⟨s0, s1, s2, s3, s4, s5, s6, s7, s8, s9, s10, s11, s12, s13, s14⟩
      go_simp
      with_reducible rfl
     rotate_left
     ·simp only [Act.put, sA, sZ, sS, i64_w, i32_w]
      rfl
     refine one_ (i := 10) (N := some 30) #[I, I, I, I, I, I, I, I, I, I, I, I, O, O, O, O, O, O, O, O, O, O, O, O, O, O] rfl rfl (one_of HT_.out (by kernel_rfl)) (by decide) (fun K hK => ?_)
     refine goes_ Try.func17 (by kernel_rfl) rfl #[.agg #[.int .i64 b0, .int .i64 b1, .int .i64 b2, .int .i64 b3, .bool b4, .bool b5, .int .i64 b6, .bool b7, .int .u64 b8, .int .u64 b9, .bool b10, .int .u64 b11, .int .u64 b12, .slice A0_13 l0_13.length c0_13, .string b14]] (by rfl) rfl rfl kA ?_
     with_reducible refine (ipv4_Fragment.calls b0 b1 b2 b3 b4 b5 b6 b7 b8 b9 b10 b11 b12 _ _ l0_13 b14 t517 t518 t519 t520 t521 t522 t523 t524 t525 t526 t527 t528 _ ?side1 ?side2 A12.out).mono ?_
     (case side1 => repeat (first | exact (Kd.C_below HR0_13.out HB.out) | (with_reducible refine Kd.C_alloc ?_ _) | (with_reducible refine Kd.C_drewN ?_ _) | (with_reducible refine Kd.C_drew ?_)))
     (case side2 => exact HC0_13.out)
     rintro e w24 ⟨rfl, hb⟩
     refine ⟨_, rfl, ?_⟩
     replace BK510 := As (blk_below (kb BK510.out) hb)
     replace HB := As (below_step (kB1 HB.out GE510.out) hb)
     (try clear hb)
     (try clear hb2)
     (try clear hk)
     (try clear hi)
     refine hK.out _ _ ⟨kC BK510.out 0, kC BK510.out 1, kC BK510.out 2, kC BK510.out 3, kC BK510.out 4, kC BK510.out 5, kC BK510.out 6, kC BK510.out 7, kC BK510.out 8, kC BK510.out 9, kC BK510.out 10, kC BK510.out 11, kC BK510.out 12, kC BK510.out 13, kC BK510.out 14⟩ (fun hHeld => ?_)
     clear hK K
     refine nP ?_
     refine one_ (i := 12) (N := some 32) #[I, I, I, I, I, I, I, I, I, I, I, I, I, O, O, O, O, O, O, O, O, O, O, O, O, O] rfl rfl (one_of HT_.out (by kernel_rfl)) (by decide) (fun K hK => ?_)
     refine goes_ Try.func18 (by kernel_rfl) rfl #[.agg #[.int .i64 b0, .int .i64 b1, .int .i64 b2, .int .i64 b3, .bool b4, .bool b5, .int .i64 b6, .bool b7, .int .u64 b8, .int .u64 b9, .bool b10, .int .u64 b11, .int .u64 b12, .slice A0_13 l0_13.length c0_13, .string b14]] (by rfl) rfl rfl kA ?_
     with_reducible refine (intrusionref11_Fragment.calls b0 b1 b2 b3 b4 b5 b6 b7 b8 b9 b10 b11 b12 _ _ l0_13 b14 t529 t530 t531 t532 t533 t534 t535 t536 t537 t538 t539 t540 _ ?side1 ?side2 A13.out).mono ?_
     (case side1 => repeat (first | exact (Kd.C_below HR0_13.out HB.out) | (with_reducible refine Kd.C_alloc ?_ _) | (with_reducible refine Kd.C_drewN ?_ _) | (with_reducible refine Kd.C_drew ?_)))
     (case side2 => exact HC0_13.out)
     rintro e w25 ⟨rfl, hb⟩
     refine ⟨_, rfl, ?_⟩
     replace BK510 := As (blk_below (kb BK510.out) hb)
     replace HB := As (below_step (kB1 HB.out GE510.out) hb)
     (try clear hb)
     (try clear hb2)
     (try clear hk)
     (try clear hi)
     refine hK.out _ _ ⟨kC BK510.out 0, kC BK510.out 1, kC BK510.out 2, kC BK510.out 3, kC BK510.out 4, kC BK510.out 5, kC BK510.out 6, kC BK510.out 7, kC BK510.out 8, kC BK510.out 9, kC BK510.out 10, kC BK510.out 11, kC BK510.out 12, kC BK510.out 13, kC BK510.out 14⟩ (fun hHeld => ?_)
     clear hK K
     refine nP ?_
     refine kP 13 33 #[I, I, I, I, I, I, I, I, I, I, I, I, I, I, O, O, O, O, O, O, O, O, O, O, O, O] ?_ (any_of HT_.out (by kernel_rfl))
     refine kP 14 34 #[I, I, I, I, I, I, I, I, I, I, I, I, I, I, I, O, O, O, O, O, O, O, O, O, O, O] ?_ (any_of HT_.out (by kernel_rfl))
     refine kP 15 35 #[I, I, I, I, I, I, I, I, I, I, I, I, I, I, I, I, O, O, O, O, O, O, O, O, O, O] ?_ (any_of HT_.out (by kernel_rfl))
     refine take_ (i := 16) (N := some 36) (v := ?_) (a' := ?_) #[I, I, I, I, I, I, I, I, I, I, I, I, I, I, I, I, I, O, O, O, O, O, O, O, O, O] rfl rfl (take_ofW HT_.out HW_.out (by kernel_rfl)) (fun _ _ _ h => h) (Or.inl ⟨by rfl, ?_⟩) hHeld ?_ ?_
     rotate_left
     ·rintro w' ⟨s0, s1, s2, s3, s4, s5, s6, s7, s8, s9, s10, s11, s12, s13, s14⟩
      go_simp
      with_reducible rfl
     rotate_left
     ·simp only [Act.put, sA, sZ, sS, i64_w, i32_w]
      rfl
     refine take_ (i := 18) (N := some 38) (v := ?_) (a' := ?_) #[I, I, I, I, I, I, I, I, I, I, I, I, I, I, I, I, I, O, I, O, O, O, O, O, O, O] rfl rfl (take_ofW HT_.out HW_.out (by kernel_rfl)) (fun _ _ _ h => h) (Or.inl ⟨by rfl, ?_⟩) hHeld ?_ ?_
     rotate_left
     ·rintro w' ⟨s0, s1, s2, s3, s4, s5, s6, s7, s8, s9, s10, s11, s12, s13, s14⟩
      go_simp
      with_reducible rfl
     rotate_left
     ·simp only [Act.put, sA, sZ, sS, i64_w, i32_w]
      rfl
     refine one_ (i := 17) (N := some 37) #[I, I, I, I, I, I, I, I, I, I, I, I, I, I, I, I, I, I, I, O, O, O, O, O, O, O] rfl rfl (one_of HT_.out (by kernel_rfl)) (by decide) (fun K hK => ?_)
     refine goes_ Try.func19 (by kernel_rfl) rfl #[.agg #[.int .i64 b0, .int .i64 b1, .int .i64 b2, .int .i64 b3, .bool b4, .bool b5, .int .i64 b6, .bool b7, .int .u64 b8, .int .u64 b9, .bool b10, .int .u64 b11, .int .u64 b12, .slice A0_13 l0_13.length c0_13, .string b14]] (by rfl) rfl rfl kA ?_
     with_reducible refine (ipv4_Routed.calls k b0 b1 b2 b3 b4 b5 b6 b7 b8 b9 b10 b11 b12 _ _ l0_13 b14 t541 _ ?side1 ?side2 A15.out).mono ?_
     (case side1 => repeat (first | exact (Kd.C_below HR0_13.out HB.out) | (with_reducible refine Kd.C_alloc ?_ _) | (with_reducible refine Kd.C_drewN ?_ _) | (with_reducible refine Kd.C_drew ?_)))
     (case side2 => exact HC0_13.out)
     rintro e w26 ⟨rfl, hb⟩
     refine ⟨_, rfl, ?_⟩
     replace BK510 := As (blk_below (kb BK510.out) hb)
     replace HB := As (below_step (kB1 HB.out GE510.out) hb)
     (try clear hb)
     (try clear hb2)
     (try clear hk)
     (try clear hi)
     refine hK.out _ _ ⟨kC BK510.out 0, kC BK510.out 1, kC BK510.out 2, kC BK510.out 3, kC BK510.out 4, kC BK510.out 5, kC BK510.out 6, kC BK510.out 7, kC BK510.out 8, kC BK510.out 9, kC BK510.out 10, kC BK510.out 11, kC BK510.out 12, kC BK510.out 13, kC BK510.out 14⟩ (fun hHeld => ?_)
     clear hK K
     refine nP ?_
     refine one_ (i := 19) (N := some 39) #[I, I, I, I, I, I, I, I, I, I, I, I, I, I, I, I, I, I, I, I, O, O, O, O, O, O] rfl rfl (one_of HT_.out (by kernel_rfl)) (by decide) (fun K hK => ?_)
     refine goes_ Try.func20 (by kernel_rfl) rfl #[.agg #[.int .i64 b0, .int .i64 b1, .int .i64 b2, .int .i64 b3, .bool b4, .bool b5, .int .i64 b6, .bool b7, .int .u64 b8, .int .u64 b9, .bool b10, .int .u64 b11, .int .u64 b12, .slice A0_13 l0_13.length c0_13, .string b14]] (by rfl) rfl rfl kA ?_
     with_reducible refine (intrusionref11_Routed.calls k b0 b1 b2 b3 b4 b5 b6 b7 b8 b9 b10 b11 b12 _ _ l0_13 b14 t542 _ ?side1 ?side2 A16.out).mono ?_
     (case side1 => repeat (first | exact (Kd.C_below HR0_13.out HB.out) | (with_reducible refine Kd.C_alloc ?_ _) | (with_reducible refine Kd.C_drewN ?_ _) | (with_reducible refine Kd.C_drew ?_)))
     (case side2 => exact HC0_13.out)
     rintro e w27 ⟨rfl, hb⟩
     refine ⟨_, rfl, ?_⟩
     replace BK510 := As (blk_below (kb BK510.out) hb)
     replace HB := As (below_step (kB1 HB.out GE510.out) hb)
     (try clear hb)
     (try clear hb2)
     (try clear hk)
     (try clear hi)
     refine hK.out _ _ ⟨kC BK510.out 0, kC BK510.out 1, kC BK510.out 2, kC BK510.out 3, kC BK510.out 4, kC BK510.out 5, kC BK510.out 6, kC BK510.out 7, kC BK510.out 8, kC BK510.out 9, kC BK510.out 10, kC BK510.out 11, kC BK510.out 12, kC BK510.out 13, kC BK510.out 14⟩ (fun hHeld => ?_)
     clear hK K
     refine nP ?_
     refine kP 20 40 #[I, I, I, I, I, I, I, I, I, I, I, I, I, I, I, I, I, I, I, I, I, O, O, O, O, O] ?_ (any_of HT_.out (by kernel_rfl))
     refine kP 21 41 #[I, I, I, I, I, I, I, I, I, I, I, I, I, I, I, I, I, I, I, I, I, I, O, O, O, O] ?_ (any_of HT_.out (by kernel_rfl))
     refine kP 22 42 #[I, I, I, I, I, I, I, I, I, I, I, I, I, I, I, I, I, I, I, I, I, I, I, O, O, O] ?_ (any_of HT_.out (by kernel_rfl))
     refine one_ (i := 23) (N := some 43) #[I, I, I, I, I, I, I, I, I, I, I, I, I, I, I, I, I, I, I, I, I, I, I, I, O, O] rfl rfl (one_of HT_.out (by kernel_rfl)) (by decide) (fun K hK => ?_)
     refine goes_ Try.func10 (by kernel_rfl) rfl #[] (by rfl) rfl rfl kA ?_
     with_reducible refine (intrusionlaw11_awake.calls k  t543 _ A18.out).mono ?_
     rintro e w28 ⟨rfl, hb⟩
     refine ⟨_, rfl, ?_⟩
     replace BK510 := As (blk_below (kb BK510.out) hb)
     replace HB := As (below_step (kB1 HB.out GE510.out) hb)
     (try clear hb)
     (try clear hb2)
     (try clear hk)
     (try clear hi)
     refine hK.out _ _ ⟨kC BK510.out 0, kC BK510.out 1, kC BK510.out 2, kC BK510.out 3, kC BK510.out 4, kC BK510.out 5, kC BK510.out 6, kC BK510.out 7, kC BK510.out 8, kC BK510.out 9, kC BK510.out 10, kC BK510.out 11, kC BK510.out 12, kC BK510.out 13, kC BK510.out 14⟩ (fun hHeld => ?_)
     clear hK K
     refine nP ?_
     refine kP 24 44 #[I, I, I, I, I, I, I, I, I, I, I, I, I, I, I, I, I, I, I, I, I, I, I, I, I, O] ?_ (any_of HT_.out (by kernel_rfl))
     refine kP 25 2 #[I, I, I, I, I, I, I, I, I, I, I, I, I, I, I, I, I, I, I, I, I, I, I, I, I, I] ?_ (any_of HT_.out (by kernel_rfl))
     refine done_ (done_of HT_.out (by kernel_rfl)) ?_
     try go_wp2
     go_ret
     exact ⟨kE, by exact kB1 HB.out GE510.out⟩
    rw [if_neg c17] at H
    have c17b0 : (t541 == t542) = false := by simpa using c17
    (try (have c17b1 : decide (t541 = t542) = false := by simpa using c17))
    (try (have c17b2 : (t541 == t542) = false := by simpa using c17))
    (try (have c17b3 : ¬ (t541 = t542) := by simpa using c17))
    clear c17
    exact absurd H (by simp)
   rw [if_neg c14] at H
   have c14b0 : ((t517 == t529 && (t518 == t530 && (t519 == t531))) && ((t520 == t532 && (t521 == t533 && (t522 == t534))) && (t523 == t535 && (t524 == t536 && (t525 == t537 && (t526 == t538 && (t527 == t539 && (t528.toList == t540.toList)))))))) = false := by simpa using c14
   clear c14
   exact absurd H (by simp)
  rw [if_neg c11] at H
  have c11b0 : (t514 == t516) = false := beq_eq_false_iff_ne.mpr c11
  have c11b1 : (t514 != t516) = true := bne_iff_ne.mpr c11
  exact absurd H (by simp)
 rw [if_neg c10] at H
 have c10b0 : (t513.toList == t515.toList) = false := beq_eq_false_iff_ne.mpr c10
 have c10b1 : (t513.toList != t515.toList) = true := bne_iff_ne.mpr c10
 exact absurd H (by simp)

end Go.Proofs.Ytobioaommmgehaa.X
-- short
-- short2
