/- What the functions of the translation that this claim's statement reaches compute, each proved by its walk. Written by xprint.py, a program of this claim's author, run over the kit's printer. -/
import Derived.Test.YtljboandbjahdaaX0
import Derived.Test.YtljboandbjahdaaX2
import Derived.Test.YtljboandbjahdaaX11
import Derived.Test.YtljboandbjahdaaX12
import Derived.Test.YtljboandbjahdaaX13
namespace Go.Proofs.Ytljboandbjahdaa.X
open Go.RowKit Go.Proofs.YtljboandbjahdaaW.PrintWords Go.Proofs.YtljboandbjahdaaW.PrintLast Go.Proofs.YtljboandbjahdaaW.PrintMore
attribute [local go_sem] max2_int min2_int max_two min_two max_three min_three max_four min_four   -- for this text's walks alone
set_option linter.unusedVariables false
set_option linter.unusedSimpArgs false

attribute [local go_sem high] eqA44
/-! ### intrusionref12_Fragment: function 21 -/
def intrusionref12_Fragment.f (b0 : Int) (b1 : Int) (b2 : Int) (b3 : Int) (b4 : Bool) (b5 : Int) (b6 : Int) (b7 : Bool) (b8 : Int) (b9 : Int) (l0_10 : List (S60)) (b11 : Bool) (b12 : Int) (b13 : Int) (b14 : Bool) (b15 : ByteArray) : Option (Bool × Int × Int × Bool × Int × Int × Int × Int × Int × Int × Bool × ByteArray) := some (b4, b5, b6, b7, b8, b9, b3, b12, b2, b13, b14, b15)
set_option maxHeartbeats 8000000 in
set_option maxRecDepth 100000 in
theorem intrusionref12_Fragment.calls (b0 : Int) (b1 : Int) (b2 : Int) (b3 : Int) (b4 : Bool) (b5 : Int) (b6 : Int) (b7 : Bool) (b8 : Int) (b9 : Int) (A0_10 : Option Addr) (c0_10 : Nat) (l0_10 : List (S60)) (b11 : Bool) (b12 : Int) (b13 : Int) (b14 : Bool) (b15 : ByteArray) (r1 : Bool) (r2 : Int) (r3 : Int) (r4 : Bool) (r5 : Int) (r6 : Int) (r7 : Int) (r8 : Int) (r9 : Int) (r10 : Int) (r11 : Bool) (r12 : ByteArray) (w : World) (hr0_10 : Kd.C k60 w A0_10 l0_10.length l0_10) (hc0_10 : l0_10.length ≤ c0_10) (h : intrusionref12_Fragment.f b0 b1 b2 b3 b4 b5 b6 b7 b8 b9 l0_10 b11 b12 b13 b14 b15 = some (r1, r2, r3, r4, r5, r6, r7, r8, r9, r10, r11, r12)) :
  Calls Try.prog 21 #[.agg #[.int .i64 b0, .int .i64 b1, .int .i64 b2, .int .i64 b3, .bool b4, .int .u64 b5, .int .u64 b6, .bool b7, .int .u64 b8, .int .u64 b9, .slice A0_10 l0_10.length c0_10, .bool b11, .int .i64 b12, .int .i64 b13, .bool b14, .string b15]] w fun e w' => e = .returned (.agg #[.bool r1, .int .u64 r2, .int .u64 r3, .bool r4, .int .u64 r5, .int .u64 r6, .int .i64 r7, .int .i64 r8, .int .i64 r9, .int .i64 r10, .bool r11, .string r12]) ∧ Below w.heap.size w w' := by
 have hu28 := Try.underlying28
 have hu44 := Try.underlying44
 have hu25 := Try.underlying25
 have HR0_10 := As hr0_10
 have HC0_10 := As hc0_10
 clear hr0_10 hc0_10
 have HB := As (Below.refl w.heap.size w)
 have H : (some (b4, b5, b6, b7, b8, b9, b3, b12, b2, b13, b14, b15)) = some (r1, r2, r3, r4, r5, r6, r7, r8, r9, r10, r11, r12) := h
 clear h
 simp only [Option.some.injEq, Prod.mk.injEq] at H
 obtain ⟨rfl, rfl, rfl, rfl, rfl, rfl, rfl, rfl, rfl, rfl, rfl, rfl⟩ := H
 go_enter Try.func21, Try.ntmps21
 go_wp2_with (first | ((with_reducible refine gate_dst (N := 1) rfl ?_); refine box_event rfl (N := 1) rfl (cs := #[.int .i64 b0, .int .i64 b1, .int .i64 b2, .int .i64 b3, .bool b4, .int .u64 b5, .int .u64 b6, .bool b7, .int .u64 b8, .int .u64 b9, .slice A0_10 l0_10.length c0_10, .bool b11, .int .i64 b12, .int .i64 b13, .bool b14, .string b15]) (t := 28) kG ?_; intro gb511 hg w2 hbox hb; have BK511 := As (hbox); have GW511 := As ((by rw [hg]; exact (below_size (kB HB.out)) : w.heap.size ≤ gb511)); have GE511 := As ((by rw [hg]; exact (below_size (kB HB.out)) : w.heap.size ≤ gb511)); replace HB := As (below_step (kB HB.out) hb); clear hb hbox hg) | ((with_reducible refine gate_dst (N := 2) rfl ?_); refine box_event rfl (N := 2) rfl (cs := #[.bool false, .int .u64 0, .int .u64 0, .bool false, .int .u64 0, .int .u64 0, .int .i64 0, .int .i64 0, .int .i64 0, .int .i64 0, .bool false, .string (⟨#[]⟩ : ByteArray)]) (t := 44) kG ?_; intro gb512 hg w3 hbox hb; have BK512 := As (hbox); have GW512 := As ((by rw [hg]; exact (below_size (kB1 HB.out GE511.out)) : w.heap.size ≤ gb512)); have GE512 := As ((by rw [hg]; exact (below_size (kB1 HB.out GE511.out)) : w.heap.size ≤ gb512)); replace HB := As (below_step (kB1 HB.out GE511.out) hb); have NB511_512 := As ((by rw [hg]; exact Nat.ne_of_lt (blk_lt (kb BK511.out)) : gb511 ≠ gb512)); have NB512_511 := As ((by rw [hg]; exact Nat.ne_of_gt (blk_lt (kb BK511.out)) : gb512 ≠ gb511)); replace BK511 := As (blk_below (kb BK511.out) hb); clear hb hbox hg; have hnb4 := NB511_512.out; have hnc4 := NB512_511.out; have hcz5_0 := cells_16 BK511.out; have hfz5_0 := fun j_ => blk_frozen BK511.out j_) | ((with_reducible refine gate_store (t := 44) (p := 2) rfl ?_); refine store_rowev_12 gb512 (.bool b4) (.int .u64 b5) (.int .u64 b6) (.bool b7) (.int .u64 b8) (.int .u64 b9) (.int .i64 b3) (.int .i64 b12) (.int .i64 b2) (.int .i64 b13) (.bool b14) (.string b15) rfl (t := 44) (p := 2) (v := _) rfl rfl rfl rfl (t' := 44) (kb BK512.out) (by rfl) (by kernel_rfl) (by rfl) ?_))
 refine bodyPost_ret (results_cell_row rfl _ _ gb512 44 #[.bool b4, .int .u64 b5, .int .u64 b6, .bool b7, .int .u64 b8, .int .u64 b9, .int .i64 b3, .int .i64 b12, .int .i64 b2, .int .i64 b13, .bool b14, .string b15] (0, 0) _ rfl (by refine kb ?_; exact blk_all_12 (kb BK512.out) (by rfl)) Try.underlying44 rfl (by kernel_rfl)) rfl ?_
 exact ⟨kE, by exact kB2 HB.out GE511.out GE512.out⟩

/-! ### intrusionref12_Routed: function 23 -/
def intrusionref12_Routed.l0 : Nat → Int → Int → Int → Int → Int → Bool → Int → Int → Bool → Int → Int → List (S60) → Bool → Int → Int → Bool → ByteArray → Option (Bool)
 | 0, _, _, _, _, _, _, _, _, _, _, _, _, _, _, _, _, _ => none
 | k + 1, x3, x514000, x514001, x514002, x514003, x514004, x514005, x514006, x514007, x514008, x514009, x514010, x514011, x514012, x514013, x514014, x514015 => if x3 < (x514010.length : Int) then (if 0 ≤ x3 then (if ((rd_T60 x514010 x3).f0) = 43 then (some true) else (intrusionref12_Routed.l0 k (wrap64 (x3 + 1)) x514000 x514001 x514002 x514003 x514004 x514005 x514006 x514007 x514008 x514009 x514010 x514011 x514012 x514013 x514014 x514015)) else (none)) else (some false)
def intrusionref12_Routed.f (k : Nat) (b0 : Int) (b1 : Int) (b2 : Int) (b3 : Int) (b4 : Bool) (b5 : Int) (b6 : Int) (b7 : Bool) (b8 : Int) (b9 : Int) (l0_10 : List (S60)) (b11 : Bool) (b12 : Int) (b13 : Int) (b14 : Bool) (b15 : ByteArray) : Option (Bool) := intrusionref12_Routed.l0 k 0 b0 b1 b2 b3 b4 b5 b6 b7 b8 b9 l0_10 b11 b12 b13 b14 b15
theorem intrusionref12_Routed.mono_l : ∀ k, (∀ y0 y1 y2 y3 y4 y5 y6 y7 y8 y9 y10 y11 y12 y13 y14 y15 y16, LeO (intrusionref12_Routed.l0 k y0 y1 y2 y3 y4 y5 y6 y7 y8 y9 y10 y11 y12 y13 y14 y15 y16) (intrusionref12_Routed.l0 (k + 1) y0 y1 y2 y3 y4 y5 y6 y7 y8 y9 y10 y11 y12 y13 y14 y15 y16))
 | 0 => fun _ _ _ _ _ _ _ _ _ _ _ _ _ _ _ _ _ r h => by simp [intrusionref12_Routed.l0] at h
 | k + 1 => by
  have ih0 := intrusionref12_Routed.mono_l k
  intro y0 y1 y2 y3 y4 y5 y6 y7 y8 y9 y10 y11 y12 y13 y14 y15 y16
  unfold intrusionref12_Routed.l0
  repeat' first | with_reducible first | apply ih0 | apply LeO.refl | apply LeO.none | refine LeO.ite ?_ ?_ | refine LeO.bind ?_ (fun _ => ?_)
theorem intrusionref12_Routed.mono : ∀ a0 a1 a2 a3 a4 a5 a6 a7 a8 a9 a10 a11 a12 a13 a14 a15 k, LeO (intrusionref12_Routed.f k a0 a1 a2 a3 a4 a5 a6 a7 a8 a9 a10 a11 a12 a13 a14 a15) (intrusionref12_Routed.f (k + 1) a0 a1 a2 a3 a4 a5 a6 a7 a8 a9 a10 a11 a12 a13 a14 a15) := by
 intro a0 a1 a2 a3 a4 a5 a6 a7 a8 a9 a10 a11 a12 a13 a14 a15 k
 have ih0 := intrusionref12_Routed.mono_l k
 unfold intrusionref12_Routed.f
 repeat' first | with_reducible first | apply ih0 | apply LeO.refl | apply LeO.none | refine LeO.ite ?_ ?_ | refine LeO.bind ?_ (fun _ => ?_)
set_option maxHeartbeats 8000000 in
set_option maxRecDepth 100000 in
theorem intrusionref12_Routed.calls (k : Nat) (b0 : Int) (b1 : Int) (b2 : Int) (b3 : Int) (b4 : Bool) (b5 : Int) (b6 : Int) (b7 : Bool) (b8 : Int) (b9 : Int) (A0_10 : Option Addr) (c0_10 : Nat) (l0_10 : List (S60)) (b11 : Bool) (b12 : Int) (b13 : Int) (b14 : Bool) (b15 : ByteArray) (r : Bool) (w : World) (hr0_10 : Kd.C k60 w A0_10 l0_10.length l0_10) (hc0_10 : l0_10.length ≤ c0_10) (h : intrusionref12_Routed.f k b0 b1 b2 b3 b4 b5 b6 b7 b8 b9 l0_10 b11 b12 b13 b14 b15 = some r) :
  Calls Try.prog 23 #[.agg #[.int .i64 b0, .int .i64 b1, .int .i64 b2, .int .i64 b3, .bool b4, .int .u64 b5, .int .u64 b6, .bool b7, .int .u64 b8, .int .u64 b9, .slice A0_10 l0_10.length c0_10, .bool b11, .int .i64 b12, .int .i64 b13, .bool b14, .string b15]] w fun e w' => e = .returned (.bool r) ∧ Below w.heap.size w w' := by
 have hu28 := Try.underlying28
 have HR0_10 := As hr0_10
 have HC0_10 := As hc0_10
 clear hr0_10 hc0_10
 have HB := As (Below.refl w.heap.size w)
 have H : (intrusionref12_Routed.l0 k 0 b0 b1 b2 b3 b4 b5 b6 b7 b8 b9 l0_10 b11 b12 b13 b14 b15) = some r := h
 clear h
 have H' := As H
 clear H
 go_enter Try.func23, Try.ntmps23
 go_wp2_with (first | ((with_reducible refine gate_dst (N := 1) rfl ?_); refine box_event rfl (N := 1) rfl (cs := #[.int .i64 b0, .int .i64 b1, .int .i64 b2, .int .i64 b3, .bool b4, .int .u64 b5, .int .u64 b6, .bool b7, .int .u64 b8, .int .u64 b9, .slice A0_10 l0_10.length c0_10, .bool b11, .int .i64 b12, .int .i64 b13, .bool b14, .string b15]) (t := 28) kG ?_; intro gb513 hg w2 hbox hb; have BK513 := As (hbox); have GW513 := As ((by rw [hg]; exact (below_size (kB HB.out)) : w.heap.size ≤ gb513)); have GE513 := As ((by rw [hg]; exact (below_size (kB HB.out)) : w.heap.size ≤ gb513)); replace HB := As (below_step (kB HB.out) hb); clear hb hbox hg))
 go_loopg [3] k (fun kq v3 w' => ∃ (x3_1 : Int), v3 = .int .i64 x3_1 ∧ Aside0 (intrusionref12_Routed.l0 kq x3_1 b0 b1 b2 b3 b4 b5 b6 b7 b8 b9 l0_10 b11 b12 b13 b14 b15 = some r) ∧ Aside0 (kq ≤ k) ∧ Aside0 (w'.heap[gb513]? = some (.cells #[.int .i64 b0, .int .i64 b1, .int .i64 b2, .int .i64 b3, .bool b4, .int .u64 b5, .int .u64 b6, .bool b7, .int .u64 b8, .int .u64 b9, (.slice A0_10 l0_10.length c0_10), .bool b11, .int .i64 b12, .int .i64 b13, .bool b14, .string b15] 28 (0, 0))) ∧ Aside0 (Below w.heap.size w w'))
 case atStart => exact ⟨(0), kS, H', ⟨Nat.le_refl _⟩, ⟨kb BK513.out⟩, ⟨kB1 HB.out GE513.out⟩⟩
 clear H'
 obtain ⟨x3_1, rfl, HA, HK1, BK513, HB⟩ := hrel
 cases gk with
 | zero => exact absurd HA.out (by simp [intrusionref12_Routed.l0])
 | succ k1 =>
  have H := HA.out
  clear HA
  simp only [intrusionref12_Routed.l0] at H
  by_cases c3 : x3_1 < (l0_10.length : Int)
  ·rw [if_pos c3] at H
   have c3b0 : decide (x3_1 < (l0_10.length : Int)) = true := decide_eq_true c3
   clear c3
   by_cases c4 : 0 ≤ x3_1
   ·rw [if_pos c4] at H
    have c4b0 : decide (0 ≤ x3_1) = true := decide_eq_true c4
    clear c4
    by_cases c5 : ((rd_T60 l0_10 x3_1).f0) = 43
    ·rw [if_pos c5] at H
     have c5b0 : (((rd_T60 l0_10 x3_1).f0) == 43) = true := beq_iff_eq.mpr c5
     have c5b1 : (((rd_T60 l0_10 x3_1).f0) != 43) = false := bne_eq_false_iff_eq.mpr c5
     clear c5
     obtain rfl := Option.some.inj H
     have hcz6_0 := cells_16 BK513.out
     have hfz6_0 := fun j_ => blk_frozen BK513.out j_
     have p514 : 0 ≤ (x3_1 : Int) := of_decide_eq_true (by first | (with_reducible assumption) | assumption)
     have q514 : x3_1 < (l0_10.length : Int) := of_decide_eq_true (by first | (with_reducible assumption) | assumption)
     obtain ⟨ad514, e514, hx514_0, hx514_1⟩ := at_T60 HR0_10.out x3_1 p514 q514
     cases e514
     replace hx514_0 := hcell HB.out hx514_0
     replace hx514_1 := hcell HB.out hx514_1
     replace p514 := eq_true p514
     replace q514 := eq_true q514
     go_wp2
     go_ret
     exact ⟨kE, by exact kB1 HB.out GE513.out⟩
    rw [if_neg c5] at H
    have c5b0 : (((rd_T60 l0_10 x3_1).f0) == 43) = false := beq_eq_false_iff_ne.mpr c5
    have c5b1 : (((rd_T60 l0_10 x3_1).f0) != 43) = true := bne_iff_ne.mpr c5
    have H' := As H
    clear H
    have hcz7_0 := cells_16 BK513.out
    have hfz7_0 := fun j_ => blk_frozen BK513.out j_
    have p514 : 0 ≤ (x3_1 : Int) := of_decide_eq_true (by first | (with_reducible assumption) | assumption)
    have q514 : x3_1 < (l0_10.length : Int) := of_decide_eq_true (by first | (with_reducible assumption) | assumption)
    obtain ⟨ad514, e514, hx514_0, hx514_1⟩ := at_T60 HR0_10.out x3_1 p514 q514
    cases e514
    replace hx514_0 := hcell HB.out hx514_0
    replace hx514_1 := hcell HB.out hx514_1
    replace p514 := eq_true p514
    replace q514 := eq_true q514
    go_wp2
    go_roundg k1
    case measure => have := HK1.out; omega
    case rel => exact ⟨(wrap64 (x3_1 + 1)), kS, H', ⟨by have := HK1.out; omega⟩, ⟨kb BK513.out⟩, ⟨kB1 HB.out GE513.out⟩⟩
   rw [if_neg c4] at H
   exact absurd H (by simp)
  rw [if_neg c3] at H
  have c3b0 : decide (x3_1 < (l0_10.length : Int)) = false := decide_eq_false c3
  clear c3
  obtain rfl := Option.some.inj H
  have hcz8_0 := cells_16 BK513.out
  have hfz8_0 := fun j_ => blk_frozen BK513.out j_
  go_wp2
  go_ret
  exact ⟨kE, by exact kB1 HB.out GE513.out⟩

/-! ### intrusionlaw12_Ipv6Fragments: function 6 -/
def intrusionlaw12_Ipv6Fragments.f (k : Nat) (b0 : Int) (b1 : Int) (b2 : Int) (b3 : Int) (b4 : Bool) (b5 : Int) (b6 : Int) (b7 : Bool) (b8 : Int) (b9 : Int) (l0_10 : List (S60)) (b11 : Bool) (b12 : Int) (b13 : Int) (b14 : Bool) (b15 : ByteArray) : Option (Bool) := (intrusionref12_Long.f k b0 b1 b2 b3 b4 b5 b6 b7 b8 b9 l0_10 b11 b12 b13 b14 b15 3000).bind fun t516 => (if t516 = true then ((intrusionlaw12_lives.f k).bind fun t517 => (some t517)) else ((ipv6_Fragment.f b0 b1 b2 b3 b4 b5 b6 b7 b8 b9 l0_10 b11 b12 b13 b14 b15).bind fun bt518 => ((intrusionref12_Fragment.f b0 b1 b2 b3 b4 b5 b6 b7 b8 b9 l0_10 b11 b12 b13 b14 b15).bind fun bt530 => (if ((bt518.1 == bt530.1 && (bt518.2.1 == bt530.2.1 && (bt518.2.2.1 == bt530.2.2.1))) && ((bt518.2.2.2.1 == bt530.2.2.2.1 && (bt518.2.2.2.2.1 == bt530.2.2.2.2.1 && (bt518.2.2.2.2.2.1 == bt530.2.2.2.2.2.1))) && (bt518.2.2.2.2.2.2.1 == bt530.2.2.2.2.2.2.1 && (bt518.2.2.2.2.2.2.2.1 == bt530.2.2.2.2.2.2.2.1 && (bt518.2.2.2.2.2.2.2.2.1 == bt530.2.2.2.2.2.2.2.2.1 && (bt518.2.2.2.2.2.2.2.2.2.1 == bt530.2.2.2.2.2.2.2.2.2.1 && (bt518.2.2.2.2.2.2.2.2.2.2.1 == bt530.2.2.2.2.2.2.2.2.2.2.1 && (bt518.2.2.2.2.2.2.2.2.2.2.2.toList == bt530.2.2.2.2.2.2.2.2.2.2.2.toList)))))))) = true then ((ipv6_Routed.f k b0 b1 b2 b3 b4 b5 b6 b7 b8 b9 l0_10 b11 b12 b13 b14 b15).bind fun t542 => ((intrusionref12_Routed.f k b0 b1 b2 b3 b4 b5 b6 b7 b8 b9 l0_10 b11 b12 b13 b14 b15).bind fun t543 => (if (t542 == t543) = true then ((intrusionlaw12_lives.f k).bind fun t544 => (some t544)) else (none)))) else (none)))))
theorem intrusionlaw12_Ipv6Fragments.mono : ∀ a0 a1 a2 a3 a4 a5 a6 a7 a8 a9 a10 a11 a12 a13 a14 a15 k, LeO (intrusionlaw12_Ipv6Fragments.f k a0 a1 a2 a3 a4 a5 a6 a7 a8 a9 a10 a11 a12 a13 a14 a15) (intrusionlaw12_Ipv6Fragments.f (k + 1) a0 a1 a2 a3 a4 a5 a6 a7 a8 a9 a10 a11 a12 a13 a14 a15) := by
 intro a0 a1 a2 a3 a4 a5 a6 a7 a8 a9 a10 a11 a12 a13 a14 a15 k
 unfold intrusionlaw12_Ipv6Fragments.f
 repeat' first | with_reducible first | apply intrusionlaw12_lives.mono | apply intrusionref12_Long.mono | apply intrusionref12_Routed.mono | apply ipv6_Routed.mono | apply LeO.refl | apply LeO.none | refine LeO.ite ?_ ?_ | refine LeO.bind ?_ (fun _ => ?_)
def intrusionlaw12_Ipv6Fragments.T3 : Bool × List (List Nat × List Nat) := (true, [([], []), ([0], [0]), ([], []), ([2, 1], [2]), ([1, 3], [1, 3]), ([4, 3], [4]), ([5], [5]), ([6, 5, 5], [5, 6]), ([5], [5]), ([8, 7, 5], [5, 8]), ([7, 9, 5], [5, 7, 9]), ([5, 10], [5, 10]), ([11, 9], [11]), ([12, 12], [12]), ([12, 13], [12, 13]), ([14, 13, 0, 1, 2, 3, 4, 5, 6, 7, 8, 9, 10, 11, 12, 13, 14], [14])])
def intrusionlaw12_Ipv6Fragments.B3 : List Nat := [0, 1, 0, 7, 15, 31, 63, 127, 63, 511, 1023, 2047, 4095, 8191, 16383, 32767]
theorem intrusionlaw12_Ipv6Fragments.tab3 : rtab .any (opsOf Try.f6 3) = intrusionlaw12_Ipv6Fragments.T3 := by kernel_rfl
theorem intrusionlaw12_Ipv6Fragments.bits3 : waitsOk intrusionlaw12_Ipv6Fragments.T3.2 intrusionlaw12_Ipv6Fragments.B3 = true := by kernel_rfl
set_option maxHeartbeats 8000000 in
set_option maxRecDepth 100000 in
theorem intrusionlaw12_Ipv6Fragments.calls (k : Nat) (b0 : Int) (b1 : Int) (b2 : Int) (b3 : Int) (b4 : Bool) (b5 : Int) (b6 : Int) (b7 : Bool) (b8 : Int) (b9 : Int) (A0_10 : Option Addr) (c0_10 : Nat) (l0_10 : List (S60)) (b11 : Bool) (b12 : Int) (b13 : Int) (b14 : Bool) (b15 : ByteArray) (r : Bool) (w : World) (hr0_10 : Kd.C k60 w A0_10 l0_10.length l0_10) (hc0_10 : l0_10.length ≤ c0_10) (h : intrusionlaw12_Ipv6Fragments.f k b0 b1 b2 b3 b4 b5 b6 b7 b8 b9 l0_10 b11 b12 b13 b14 b15 = some r) :
  Calls Try.prog 6 #[.agg #[.int .i64 b0, .int .i64 b1, .int .i64 b2, .int .i64 b3, .bool b4, .int .u64 b5, .int .u64 b6, .bool b7, .int .u64 b8, .int .u64 b9, .slice A0_10 l0_10.length c0_10, .bool b11, .int .i64 b12, .int .i64 b13, .bool b14, .string b15]] w fun e w' => e = .returned (.bool r) ∧ Below w.heap.size w w' := by
 have hu28 := Try.underlying28
 have HR0_10 := As hr0_10
 have HC0_10 := As hc0_10
 clear hr0_10 hc0_10
 have HB := As (Below.refl w.heap.size w)
 have H : ((intrusionref12_Long.f k b0 b1 b2 b3 b4 b5 b6 b7 b8 b9 l0_10 b11 b12 b13 b14 b15 3000).bind fun t516 => (if t516 = true then ((intrusionlaw12_lives.f k).bind fun t517 => (some t517)) else ((ipv6_Fragment.f b0 b1 b2 b3 b4 b5 b6 b7 b8 b9 l0_10 b11 b12 b13 b14 b15).bind fun bt518 => ((intrusionref12_Fragment.f b0 b1 b2 b3 b4 b5 b6 b7 b8 b9 l0_10 b11 b12 b13 b14 b15).bind fun bt530 => (if ((bt518.1 == bt530.1 && (bt518.2.1 == bt530.2.1 && (bt518.2.2.1 == bt530.2.2.1))) && ((bt518.2.2.2.1 == bt530.2.2.2.1 && (bt518.2.2.2.2.1 == bt530.2.2.2.2.1 && (bt518.2.2.2.2.2.1 == bt530.2.2.2.2.2.1))) && (bt518.2.2.2.2.2.2.1 == bt530.2.2.2.2.2.2.1 && (bt518.2.2.2.2.2.2.2.1 == bt530.2.2.2.2.2.2.2.1 && (bt518.2.2.2.2.2.2.2.2.1 == bt530.2.2.2.2.2.2.2.2.1 && (bt518.2.2.2.2.2.2.2.2.2.1 == bt530.2.2.2.2.2.2.2.2.2.1 && (bt518.2.2.2.2.2.2.2.2.2.2.1 == bt530.2.2.2.2.2.2.2.2.2.2.1 && (bt518.2.2.2.2.2.2.2.2.2.2.2.toList == bt530.2.2.2.2.2.2.2.2.2.2.2.toList)))))))) = true then ((ipv6_Routed.f k b0 b1 b2 b3 b4 b5 b6 b7 b8 b9 l0_10 b11 b12 b13 b14 b15).bind fun t542 => ((intrusionref12_Routed.f k b0 b1 b2 b3 b4 b5 b6 b7 b8 b9 l0_10 b11 b12 b13 b14 b15).bind fun t543 => (if (t542 == t543) = true then ((intrusionlaw12_lives.f k).bind fun t544 => (some t544)) else (none)))) else (none)))))) = some r := h
 clear h
 replace H := Option.bind_eq_some_iff.mp H
 obtain ⟨t516, A20, H⟩ := H
 replace H : (if t516 = true then ((intrusionlaw12_lives.f k).bind fun t517 => (some t517)) else ((ipv6_Fragment.f b0 b1 b2 b3 b4 b5 b6 b7 b8 b9 l0_10 b11 b12 b13 b14 b15).bind fun bt518 => ((intrusionref12_Fragment.f b0 b1 b2 b3 b4 b5 b6 b7 b8 b9 l0_10 b11 b12 b13 b14 b15).bind fun bt530 => (if ((bt518.1 == bt530.1 && (bt518.2.1 == bt530.2.1 && (bt518.2.2.1 == bt530.2.2.1))) && ((bt518.2.2.2.1 == bt530.2.2.2.1 && (bt518.2.2.2.2.1 == bt530.2.2.2.2.1 && (bt518.2.2.2.2.2.1 == bt530.2.2.2.2.2.1))) && (bt518.2.2.2.2.2.2.1 == bt530.2.2.2.2.2.2.1 && (bt518.2.2.2.2.2.2.2.1 == bt530.2.2.2.2.2.2.2.1 && (bt518.2.2.2.2.2.2.2.2.1 == bt530.2.2.2.2.2.2.2.2.1 && (bt518.2.2.2.2.2.2.2.2.2.1 == bt530.2.2.2.2.2.2.2.2.2.1 && (bt518.2.2.2.2.2.2.2.2.2.2.1 == bt530.2.2.2.2.2.2.2.2.2.2.1 && (bt518.2.2.2.2.2.2.2.2.2.2.2.toList == bt530.2.2.2.2.2.2.2.2.2.2.2.toList)))))))) = true then ((ipv6_Routed.f k b0 b1 b2 b3 b4 b5 b6 b7 b8 b9 l0_10 b11 b12 b13 b14 b15).bind fun t542 => ((intrusionref12_Routed.f k b0 b1 b2 b3 b4 b5 b6 b7 b8 b9 l0_10 b11 b12 b13 b14 b15).bind fun t543 => (if (t542 == t543) = true then ((intrusionlaw12_lives.f k).bind fun t544 => (some t544)) else (none)))) else (none))))) = some r := H
 have A2 := As A20
 clear A20
 by_cases c3 : t516 = true
 ·subst c3
  have H1 : ((intrusionlaw12_lives.f k).bind fun t517 => (some t517)) = some r := by rw [if_pos rfl] at H; exact H
  clear H
  have H := H1
  clear H1
  replace H := Option.bind_eq_some_iff.mp H
  obtain ⟨t517, A40, H⟩ := H
  replace H : (some t517) = some r := H
  have A4 := As A40
  clear A40
  obtain rfl := Option.some.inj H
  go_enter Try.func6, Try.ntmps6
  go_wp2_with (first | ((with_reducible refine gate_dst (N := 1) rfl ?_); refine box_event rfl (N := 1) rfl (cs := #[.int .i64 b0, .int .i64 b1, .int .i64 b2, .int .i64 b3, .bool b4, .int .u64 b5, .int .u64 b6, .bool b7, .int .u64 b8, .int .u64 b9, .slice A0_10 l0_10.length c0_10, .bool b11, .int .i64 b12, .int .i64 b13, .bool b14, .string b15]) (t := 28) kG ?_; intro gb515 hg w5 hbox hb; have BK515 := As (hbox); have GW515 := As ((by rw [hg]; exact (below_size (kB HB.out)) : w.heap.size ≤ gb515)); have GE515 := As ((by rw [hg]; exact (below_size (kB HB.out)) : w.heap.size ≤ gb515)); replace HB := As (below_step (kB HB.out) hb); clear hb hbox hg) | ((with_reducible refine gate_dst (N := 3) rfl ?_); refine wpList_load_row rfl 28 _ rfl gb515 rfl 28 _ (0, 0) _ (kb BK515.out) Try.underlying28 rfl (by kernel_rfl) ?_) | ((with_reducible refine gate_callee (f := 14) rfl ?_); refine goesL_ (some 4) rfl rfl Try.func14 (by kernel_rfl) rfl #[.agg #[.int .i64 b0, .int .i64 b1, .int .i64 b2, .int .i64 b3, .bool b4, .int .u64 b5, .int .u64 b6, .bool b7, .int .u64 b8, .int .u64 b9, .slice A0_10 l0_10.length c0_10, .bool b11, .int .i64 b12, .int .i64 b13, .bool b14, .string b15], .int .i64 3000] rfl kA ?_; (with_reducible refine (intrusionref12_Long.calls k b0 b1 b2 b3 b4 b5 b6 b7 b8 b9 _ _ l0_10 b11 b12 b13 b14 b15 3000 true _ ?side1 ?side2 A2.out).mono ?_); (case side1 => repeat (first | exact (Kd.C_below HR0_10.out HB.out) | (with_reducible refine Kd.C_alloc ?_ _) | (with_reducible refine Kd.C_drewN ?_ _) | (with_reducible refine Kd.C_drew ?_))); (case side2 => exact HC0_10.out); rintro e w6 ⟨rfl, hb⟩; refine ⟨_, rfl, ?_⟩; replace BK515 := As (blk_below (kb BK515.out) hb); replace HB := As (below_step (kB1 HB.out GE515.out) hb); (try clear hb)) | ((with_reducible refine gate_callee (f := 10) rfl ?_); refine goesL_ (some 5) rfl rfl Try.func10 (by kernel_rfl) rfl #[] rfl kA ?_; (with_reducible refine (intrusionlaw12_lives.calls k  t517 _ A4.out).mono ?_); rintro e w7 ⟨rfl, hb⟩; refine ⟨_, rfl, ?_⟩; replace BK515 := As (blk_below (kb BK515.out) hb); replace HB := As (below_step (kB1 HB.out GE515.out) hb); (try clear hb)))
  go_ret
  exact ⟨kE, by exact kB1 HB.out GE515.out⟩
 replace c3 := Bool.eq_false_iff.mpr c3
 subst c3
 have H1 : ((ipv6_Fragment.f b0 b1 b2 b3 b4 b5 b6 b7 b8 b9 l0_10 b11 b12 b13 b14 b15).bind fun bt518 => ((intrusionref12_Fragment.f b0 b1 b2 b3 b4 b5 b6 b7 b8 b9 l0_10 b11 b12 b13 b14 b15).bind fun bt530 => (if ((bt518.1 == bt530.1 && (bt518.2.1 == bt530.2.1 && (bt518.2.2.1 == bt530.2.2.1))) && ((bt518.2.2.2.1 == bt530.2.2.2.1 && (bt518.2.2.2.2.1 == bt530.2.2.2.2.1 && (bt518.2.2.2.2.2.1 == bt530.2.2.2.2.2.1))) && (bt518.2.2.2.2.2.2.1 == bt530.2.2.2.2.2.2.1 && (bt518.2.2.2.2.2.2.2.1 == bt530.2.2.2.2.2.2.2.1 && (bt518.2.2.2.2.2.2.2.2.1 == bt530.2.2.2.2.2.2.2.2.1 && (bt518.2.2.2.2.2.2.2.2.2.1 == bt530.2.2.2.2.2.2.2.2.2.1 && (bt518.2.2.2.2.2.2.2.2.2.2.1 == bt530.2.2.2.2.2.2.2.2.2.2.1 && (bt518.2.2.2.2.2.2.2.2.2.2.2.toList == bt530.2.2.2.2.2.2.2.2.2.2.2.toList)))))))) = true then ((ipv6_Routed.f k b0 b1 b2 b3 b4 b5 b6 b7 b8 b9 l0_10 b11 b12 b13 b14 b15).bind fun t542 => ((intrusionref12_Routed.f k b0 b1 b2 b3 b4 b5 b6 b7 b8 b9 l0_10 b11 b12 b13 b14 b15).bind fun t543 => (if (t542 == t543) = true then ((intrusionlaw12_lives.f k).bind fun t544 => (some t544)) else (none)))) else (none)))) = some r := by rw [if_neg (show ¬ (false = true) by decide)] at H; exact H
 clear H
 have H := H1
 clear H1
 replace H := Option.bind_eq_some_iff.mp H
 obtain ⟨⟨t518, t519, t520, t521, t522, t523, t524, t525, t526, t527, t528, t529⟩, A80, H⟩ := H
 replace H : ((intrusionref12_Fragment.f b0 b1 b2 b3 b4 b5 b6 b7 b8 b9 l0_10 b11 b12 b13 b14 b15).bind fun bt530 => (if ((t518 == bt530.1 && (t519 == bt530.2.1 && (t520 == bt530.2.2.1))) && ((t521 == bt530.2.2.2.1 && (t522 == bt530.2.2.2.2.1 && (t523 == bt530.2.2.2.2.2.1))) && (t524 == bt530.2.2.2.2.2.2.1 && (t525 == bt530.2.2.2.2.2.2.2.1 && (t526 == bt530.2.2.2.2.2.2.2.2.1 && (t527 == bt530.2.2.2.2.2.2.2.2.2.1 && (t528 == bt530.2.2.2.2.2.2.2.2.2.2.1 && (t529.toList == bt530.2.2.2.2.2.2.2.2.2.2.2.toList)))))))) = true then ((ipv6_Routed.f k b0 b1 b2 b3 b4 b5 b6 b7 b8 b9 l0_10 b11 b12 b13 b14 b15).bind fun t542 => ((intrusionref12_Routed.f k b0 b1 b2 b3 b4 b5 b6 b7 b8 b9 l0_10 b11 b12 b13 b14 b15).bind fun t543 => (if (t542 == t543) = true then ((intrusionlaw12_lives.f k).bind fun t544 => (some t544)) else (none)))) else (none))) = some r := H
 have A8 := As A80
 clear A80
 replace H := Option.bind_eq_some_iff.mp H
 obtain ⟨⟨t530, t531, t532, t533, t534, t535, t536, t537, t538, t539, t540, t541⟩, A90, H⟩ := H
 replace H : (if ((t518 == t530 && (t519 == t531 && (t520 == t532))) && ((t521 == t533 && (t522 == t534 && (t523 == t535))) && (t524 == t536 && (t525 == t537 && (t526 == t538 && (t527 == t539 && (t528 == t540 && (t529.toList == t541.toList)))))))) = true then ((ipv6_Routed.f k b0 b1 b2 b3 b4 b5 b6 b7 b8 b9 l0_10 b11 b12 b13 b14 b15).bind fun t542 => ((intrusionref12_Routed.f k b0 b1 b2 b3 b4 b5 b6 b7 b8 b9 l0_10 b11 b12 b13 b14 b15).bind fun t543 => (if (t542 == t543) = true then ((intrusionlaw12_lives.f k).bind fun t544 => (some t544)) else (none)))) else (none)) = some r := H
 have A9 := As A90
 clear A90
 by_cases c10 : ((t518 == t530 && (t519 == t531 && (t520 == t532))) && ((t521 == t533 && (t522 == t534 && (t523 == t535))) && (t524 == t536 && (t525 == t537 && (t526 == t538 && (t527 == t539 && (t528 == t540 && (t529.toList == t541.toList)))))))) = true
 ·rw [if_pos c10] at H
  have c10b0 : ((t518 == t530 && (t519 == t531 && (t520 == t532))) && ((t521 == t533 && (t522 == t534 && (t523 == t535))) && (t524 == t536 && (t525 == t537 && (t526 == t538 && (t527 == t539 && (t528 == t540 && (t529.toList == t541.toList)))))))) = true := c10
  clear c10
  replace H := Option.bind_eq_some_iff.mp H
  obtain ⟨t542, A110, H⟩ := H
  replace H : ((intrusionref12_Routed.f k b0 b1 b2 b3 b4 b5 b6 b7 b8 b9 l0_10 b11 b12 b13 b14 b15).bind fun t543 => (if (t542 == t543) = true then ((intrusionlaw12_lives.f k).bind fun t544 => (some t544)) else (none))) = some r := H
  have A11 := As A110
  clear A110
  replace H := Option.bind_eq_some_iff.mp H
  obtain ⟨t543, A120, H⟩ := H
  replace H : (if (t542 == t543) = true then ((intrusionlaw12_lives.f k).bind fun t544 => (some t544)) else (none)) = some r := H
  have A12 := As A120
  clear A120
  by_cases c13 : (t542 == t543) = true
  ·rw [if_pos c13] at H
   have c13b0 : (t542 == t543) = true := c13
   (try (have c13b1 : decide (t542 = t543) = true := by simpa using c13))
   (try (have c13b2 : (t542 == t543) = true := by simpa using c13))
   clear c13
   replace H := Option.bind_eq_some_iff.mp H
   obtain ⟨t544, A140, H⟩ := H
   replace H : (some t544) = some r := H
   have A14 := As A140
   clear A140
   obtain rfl := Option.some.inj H
   go_enter Try.func6, Try.ntmps6
   try go_wp2_with (first | ((with_reducible refine gate_dst (N := 1) rfl ?_); refine box_event rfl (N := 1) rfl (cs := #[.int .i64 b0, .int .i64 b1, .int .i64 b2, .int .i64 b3, .bool b4, .int .u64 b5, .int .u64 b6, .bool b7, .int .u64 b8, .int .u64 b9, .slice A0_10 l0_10.length c0_10, .bool b11, .int .i64 b12, .int .i64 b13, .bool b14, .string b15]) (t := 28) kG ?_; intro gb515 hg w15 hbox hb; have BK515 := As (hbox); have GW515 := As ((by rw [hg]; exact (below_size (kB HB.out)) : w.heap.size ≤ gb515)); have GE515 := As ((by rw [hg]; exact (below_size (kB HB.out)) : w.heap.size ≤ gb515)); replace HB := As (below_step (kB HB.out) hb); clear hb hbox hg) | ((with_reducible refine gate_dst (N := 3) rfl ?_); refine wpList_load_row rfl 28 _ rfl gb515 rfl 28 _ (0, 0) _ (kb BK515.out) Try.underlying28 rfl (by kernel_rfl) ?_) | ((with_reducible refine gate_callee (f := 14) rfl ?_); refine goesL_ (some 4) rfl rfl Try.func14 (by kernel_rfl) rfl #[.agg #[.int .i64 b0, .int .i64 b1, .int .i64 b2, .int .i64 b3, .bool b4, .int .u64 b5, .int .u64 b6, .bool b7, .int .u64 b8, .int .u64 b9, .slice A0_10 l0_10.length c0_10, .bool b11, .int .i64 b12, .int .i64 b13, .bool b14, .string b15], .int .i64 3000] rfl kA ?_; (with_reducible refine (intrusionref12_Long.calls k b0 b1 b2 b3 b4 b5 b6 b7 b8 b9 _ _ l0_10 b11 b12 b13 b14 b15 3000 false _ ?side1 ?side2 A2.out).mono ?_); (case side1 => repeat (first | exact (Kd.C_below HR0_10.out HB.out) | (with_reducible refine Kd.C_alloc ?_ _) | (with_reducible refine Kd.C_drewN ?_ _) | (with_reducible refine Kd.C_drew ?_))); (case side2 => exact HC0_10.out); rintro e w16 ⟨rfl, hb⟩; refine ⟨_, rfl, ?_⟩; replace BK515 := As (blk_below (kb BK515.out) hb); replace HB := As (below_step (kB1 HB.out GE515.out) hb); (try clear hb)))
   replace BK515 := As (blk_drew BK515.out)
   replace HB := As (below_drew1 HB.out)
   refine start_ (n := 16) (S := fun w' => w'.cell? ⟨gb515, 0, none⟩ = some (.int .i64 b0) ∧ w'.cell? ⟨gb515, 1, none⟩ = some (.int .i64 b1) ∧ w'.cell? ⟨gb515, 2, none⟩ = some (.int .i64 b2) ∧ w'.cell? ⟨gb515, 3, none⟩ = some (.int .i64 b3) ∧ w'.cell? ⟨gb515, 4, none⟩ = some (.bool b4) ∧ w'.cell? ⟨gb515, 5, none⟩ = some (.int .u64 b5) ∧ w'.cell? ⟨gb515, 6, none⟩ = some (.int .u64 b6) ∧ w'.cell? ⟨gb515, 7, none⟩ = some (.bool b7) ∧ w'.cell? ⟨gb515, 8, none⟩ = some (.int .u64 b8) ∧ w'.cell? ⟨gb515, 9, none⟩ = some (.int .u64 b9) ∧ w'.cell? ⟨gb515, 10, none⟩ = some (.slice A0_10 l0_10.length c0_10) ∧ w'.cell? ⟨gb515, 11, none⟩ = some (.bool b11) ∧ w'.cell? ⟨gb515, 12, none⟩ = some (.int .i64 b12) ∧ w'.cell? ⟨gb515, 13, none⟩ = some (.int .i64 b13) ∧ w'.cell? ⟨gb515, 14, none⟩ = some (.bool b14) ∧ w'.cell? ⟨gb515, 15, none⟩ = some (.string b15)) (ds := []) #[false, false, false, false, false, false, false, false, false, false, false, false, false, false, false, false] (by kernel_rfl) rfl rfl ⟨(blk_cell BK515.out 0).trans rfl, (blk_cell BK515.out 1).trans rfl, (blk_cell BK515.out 2).trans rfl, (blk_cell BK515.out 3).trans rfl, (blk_cell BK515.out 4).trans rfl, (blk_cell BK515.out 5).trans rfl, (blk_cell BK515.out 6).trans rfl, (blk_cell BK515.out 7).trans rfl, (blk_cell BK515.out 8).trans rfl, (blk_cell BK515.out 9).trans rfl, (blk_cell BK515.out 10).trans rfl, (blk_cell BK515.out 11).trans rfl, (blk_cell BK515.out 12).trans rfl, (blk_cell BK515.out 13).trans rfl, (blk_cell BK515.out 14).trans rfl, (blk_cell BK515.out 15).trans rfl⟩ (fun hHeld => ?_); refine with_tabW intrusionlaw12_Ipv6Fragments.tab3 intrusionlaw12_Ipv6Fragments.bits3 (fun HT_ HW_ => ?_)
   generalize w16.drew = w17 at BK515 HB hHeld ⊢
   refine take_ (i := 0) (N := some 6) (v := ?_) (a' := ?_) #[true, false, false, false, false, false, false, false, false, false, false, false, false, false, false, false] rfl rfl (take_ofW HT_.out HW_.out (by kernel_rfl)) (fun _ _ _ h => h) (Or.inl ⟨by rfl, ?_⟩) hHeld ?_ ?_
   rotate_left
   ·rintro w' ⟨s0, s1, s2, s3, s4, s5, s6, s7, s8, s9, s10, s11, s12, s13, s14, s15⟩
    go_simp
    with_reducible rfl
   rotate_left
   ·simp only [Act.put, sA, sZ, sS, i64_w, i32_w]
    rfl
   refine take_ (i := 2) (N := some 8) (v := ?_) (a' := ?_) #[true, false, true, false, false, false, false, false, false, false, false, false, false, false, false, false] rfl rfl (take_ofW HT_.out HW_.out (by kernel_rfl)) (fun _ _ _ h => h) (Or.inl ⟨by rfl, ?_⟩) hHeld ?_ ?_
   rotate_left
   ·rintro w' ⟨s0, s1, s2, s3, s4, s5, s6, s7, s8, s9, s10, s11, s12, s13, s14, s15⟩
    go_simp
    with_reducible rfl
   rotate_left
   ·simp only [Act.put, sA, sZ, sS, i64_w, i32_w]
    rfl
   refine one_ (i := 1) (N := some 7) #[true, true, true, false, false, false, false, false, false, false, false, false, false, false, false, false] rfl rfl (one_of HT_.out (by kernel_rfl)) (by decide) (fun K hK => ?_)
   refine goes_ Try.func20 (by kernel_rfl) rfl #[.agg #[.int .i64 b0, .int .i64 b1, .int .i64 b2, .int .i64 b3, .bool b4, .int .u64 b5, .int .u64 b6, .bool b7, .int .u64 b8, .int .u64 b9, .slice A0_10 l0_10.length c0_10, .bool b11, .int .i64 b12, .int .i64 b13, .bool b14, .string b15]] (by rfl) rfl rfl kA ?_
   with_reducible refine (ipv6_Fragment.calls b0 b1 b2 b3 b4 b5 b6 b7 b8 b9 _ _ l0_10 b11 b12 b13 b14 b15 t518 t519 t520 t521 t522 t523 t524 t525 t526 t527 t528 t529 _ ?side1 ?side2 A8.out).mono ?_
   (case side1 => repeat (first | exact (Kd.C_below HR0_10.out HB.out) | (with_reducible refine Kd.C_alloc ?_ _) | (with_reducible refine Kd.C_drewN ?_ _) | (with_reducible refine Kd.C_drew ?_)))
   (case side2 => exact HC0_10.out)
   rintro e w18 ⟨rfl, hb⟩
   refine ⟨_, rfl, ?_⟩
   replace BK515 := As (blk_below (kb BK515.out) hb)
   replace HB := As (below_step (kB1 HB.out GE515.out) hb)
   (try clear hb)
   (try clear hb2)
   (try clear hk)
   (try clear hi)
   refine hK.out _ _ ⟨(blk_cell BK515.out 0).trans rfl, (blk_cell BK515.out 1).trans rfl, (blk_cell BK515.out 2).trans rfl, (blk_cell BK515.out 3).trans rfl, (blk_cell BK515.out 4).trans rfl, (blk_cell BK515.out 5).trans rfl, (blk_cell BK515.out 6).trans rfl, (blk_cell BK515.out 7).trans rfl, (blk_cell BK515.out 8).trans rfl, (blk_cell BK515.out 9).trans rfl, (blk_cell BK515.out 10).trans rfl, (blk_cell BK515.out 11).trans rfl, (blk_cell BK515.out 12).trans rfl, (blk_cell BK515.out 13).trans rfl, (blk_cell BK515.out 14).trans rfl, (blk_cell BK515.out 15).trans rfl⟩ (fun hHeld => ?_)
   clear hK K
   refine norm_ (a' := ?_) ?_ ?_
   rotate_left
   ·show Act.put _ (some 7) _ = _
    simp only [Act.put, sA, sZ, sS, i64_w, i32_w]
    rfl
   refine one_ (i := 3) (N := some 9) #[true, true, true, true, false, false, false, false, false, false, false, false, false, false, false, false] rfl rfl (one_of HT_.out (by kernel_rfl)) (by decide) (fun K hK => ?_)
   refine goes_ Try.func21 (by kernel_rfl) rfl #[.agg #[.int .i64 b0, .int .i64 b1, .int .i64 b2, .int .i64 b3, .bool b4, .int .u64 b5, .int .u64 b6, .bool b7, .int .u64 b8, .int .u64 b9, .slice A0_10 l0_10.length c0_10, .bool b11, .int .i64 b12, .int .i64 b13, .bool b14, .string b15]] (by rfl) rfl rfl kA ?_
   with_reducible refine (intrusionref12_Fragment.calls b0 b1 b2 b3 b4 b5 b6 b7 b8 b9 _ _ l0_10 b11 b12 b13 b14 b15 t530 t531 t532 t533 t534 t535 t536 t537 t538 t539 t540 t541 _ ?side1 ?side2 A9.out).mono ?_
   (case side1 => repeat (first | exact (Kd.C_below HR0_10.out HB.out) | (with_reducible refine Kd.C_alloc ?_ _) | (with_reducible refine Kd.C_drewN ?_ _) | (with_reducible refine Kd.C_drew ?_)))
   (case side2 => exact HC0_10.out)
   rintro e w19 ⟨rfl, hb⟩
   refine ⟨_, rfl, ?_⟩
   replace BK515 := As (blk_below (kb BK515.out) hb)
   replace HB := As (below_step (kB1 HB.out GE515.out) hb)
   (try clear hb)
   (try clear hb2)
   (try clear hk)
   (try clear hi)
   refine hK.out _ _ ⟨(blk_cell BK515.out 0).trans rfl, (blk_cell BK515.out 1).trans rfl, (blk_cell BK515.out 2).trans rfl, (blk_cell BK515.out 3).trans rfl, (blk_cell BK515.out 4).trans rfl, (blk_cell BK515.out 5).trans rfl, (blk_cell BK515.out 6).trans rfl, (blk_cell BK515.out 7).trans rfl, (blk_cell BK515.out 8).trans rfl, (blk_cell BK515.out 9).trans rfl, (blk_cell BK515.out 10).trans rfl, (blk_cell BK515.out 11).trans rfl, (blk_cell BK515.out 12).trans rfl, (blk_cell BK515.out 13).trans rfl, (blk_cell BK515.out 14).trans rfl, (blk_cell BK515.out 15).trans rfl⟩ (fun hHeld => ?_)
   clear hK K
   refine norm_ (a' := ?_) ?_ ?_
   rotate_left
   ·show Act.put _ (some 9) _ = _
    simp only [Act.put, sA, sZ, sS, i64_w, i32_w]
    rfl
   refine kP 4 10 #[true, true, true, true, true, false, false, false, false, false, false, false, false, false, false, false] ?_ (any_of HT_.out (by kernel_rfl))
   refine kP 5 11 #[true, true, true, true, true, true, false, false, false, false, false, false, false, false, false, false] ?_ (any_of HT_.out (by kernel_rfl))
   refine take_ (i := 6) (N := some 12) (v := ?_) (a' := ?_) #[true, true, true, true, true, true, true, false, false, false, false, false, false, false, false, false] rfl rfl (take_ofW HT_.out HW_.out (by kernel_rfl)) (fun _ _ _ h => h) (Or.inl ⟨by rfl, ?_⟩) hHeld ?_ ?_
   rotate_left
   ·rintro w' ⟨s0, s1, s2, s3, s4, s5, s6, s7, s8, s9, s10, s11, s12, s13, s14, s15⟩
    go_simp
    with_reducible rfl
   rotate_left
   ·simp only [Act.put, sA, sZ, sS, i64_w, i32_w]
    rfl
   refine take_ (i := 8) (N := some 14) (v := ?_) (a' := ?_) #[true, true, true, true, true, true, true, false, true, false, false, false, false, false, false, false] rfl rfl (take_ofW HT_.out HW_.out (by kernel_rfl)) (fun _ _ _ h => h) (Or.inl ⟨by rfl, ?_⟩) hHeld ?_ ?_
   rotate_left
   ·rintro w' ⟨s0, s1, s2, s3, s4, s5, s6, s7, s8, s9, s10, s11, s12, s13, s14, s15⟩
    go_simp
    with_reducible rfl
   rotate_left
   ·simp only [Act.put, sA, sZ, sS, i64_w, i32_w]
    rfl
   refine one_ (i := 7) (N := some 13) #[true, true, true, true, true, true, true, true, true, false, false, false, false, false, false, false] rfl rfl (one_of HT_.out (by kernel_rfl)) (by decide) (fun K hK => ?_)
   refine goes_ Try.func22 (by kernel_rfl) rfl #[.agg #[.int .i64 b0, .int .i64 b1, .int .i64 b2, .int .i64 b3, .bool b4, .int .u64 b5, .int .u64 b6, .bool b7, .int .u64 b8, .int .u64 b9, .slice A0_10 l0_10.length c0_10, .bool b11, .int .i64 b12, .int .i64 b13, .bool b14, .string b15]] (by rfl) rfl rfl kA ?_
   with_reducible refine (ipv6_Routed.calls k b0 b1 b2 b3 b4 b5 b6 b7 b8 b9 _ _ l0_10 b11 b12 b13 b14 b15 t542 _ ?side1 ?side2 A11.out).mono ?_
   (case side1 => repeat (first | exact (Kd.C_below HR0_10.out HB.out) | (with_reducible refine Kd.C_alloc ?_ _) | (with_reducible refine Kd.C_drewN ?_ _) | (with_reducible refine Kd.C_drew ?_)))
   (case side2 => exact HC0_10.out)
   rintro e w20 ⟨rfl, hb⟩
   refine ⟨_, rfl, ?_⟩
   replace BK515 := As (blk_below (kb BK515.out) hb)
   replace HB := As (below_step (kB1 HB.out GE515.out) hb)
   (try clear hb)
   (try clear hb2)
   (try clear hk)
   (try clear hi)
   refine hK.out _ _ ⟨(blk_cell BK515.out 0).trans rfl, (blk_cell BK515.out 1).trans rfl, (blk_cell BK515.out 2).trans rfl, (blk_cell BK515.out 3).trans rfl, (blk_cell BK515.out 4).trans rfl, (blk_cell BK515.out 5).trans rfl, (blk_cell BK515.out 6).trans rfl, (blk_cell BK515.out 7).trans rfl, (blk_cell BK515.out 8).trans rfl, (blk_cell BK515.out 9).trans rfl, (blk_cell BK515.out 10).trans rfl, (blk_cell BK515.out 11).trans rfl, (blk_cell BK515.out 12).trans rfl, (blk_cell BK515.out 13).trans rfl, (blk_cell BK515.out 14).trans rfl, (blk_cell BK515.out 15).trans rfl⟩ (fun hHeld => ?_)
   clear hK K
   refine norm_ (a' := ?_) ?_ ?_
   rotate_left
   ·show Act.put _ (some 13) _ = _
    simp only [Act.put, sA, sZ, sS, i64_w, i32_w]
    rfl
   refine one_ (i := 9) (N := some 15) #[true, true, true, true, true, true, true, true, true, true, false, false, false, false, false, false] rfl rfl (one_of HT_.out (by kernel_rfl)) (by decide) (fun K hK => ?_)
   refine goes_ Try.func23 (by kernel_rfl) rfl #[.agg #[.int .i64 b0, .int .i64 b1, .int .i64 b2, .int .i64 b3, .bool b4, .int .u64 b5, .int .u64 b6, .bool b7, .int .u64 b8, .int .u64 b9, .slice A0_10 l0_10.length c0_10, .bool b11, .int .i64 b12, .int .i64 b13, .bool b14, .string b15]] (by rfl) rfl rfl kA ?_
   with_reducible refine (intrusionref12_Routed.calls k b0 b1 b2 b3 b4 b5 b6 b7 b8 b9 _ _ l0_10 b11 b12 b13 b14 b15 t543 _ ?side1 ?side2 A12.out).mono ?_
   (case side1 => repeat (first | exact (Kd.C_below HR0_10.out HB.out) | (with_reducible refine Kd.C_alloc ?_ _) | (with_reducible refine Kd.C_drewN ?_ _) | (with_reducible refine Kd.C_drew ?_)))
   (case side2 => exact HC0_10.out)
   rintro e w21 ⟨rfl, hb⟩
   refine ⟨_, rfl, ?_⟩
   replace BK515 := As (blk_below (kb BK515.out) hb)
   replace HB := As (below_step (kB1 HB.out GE515.out) hb)
   (try clear hb)
   (try clear hb2)
   (try clear hk)
   (try clear hi)
   refine hK.out _ _ ⟨(blk_cell BK515.out 0).trans rfl, (blk_cell BK515.out 1).trans rfl, (blk_cell BK515.out 2).trans rfl, (blk_cell BK515.out 3).trans rfl, (blk_cell BK515.out 4).trans rfl, (blk_cell BK515.out 5).trans rfl, (blk_cell BK515.out 6).trans rfl, (blk_cell BK515.out 7).trans rfl, (blk_cell BK515.out 8).trans rfl, (blk_cell BK515.out 9).trans rfl, (blk_cell BK515.out 10).trans rfl, (blk_cell BK515.out 11).trans rfl, (blk_cell BK515.out 12).trans rfl, (blk_cell BK515.out 13).trans rfl, (blk_cell BK515.out 14).trans rfl, (blk_cell BK515.out 15).trans rfl⟩ (fun hHeld => ?_)
   clear hK K
   refine norm_ (a' := ?_) ?_ ?_
   rotate_left
   ·show Act.put _ (some 15) _ = _
    simp only [Act.put, sA, sZ, sS, i64_w, i32_w]
    rfl
   refine kP 10 16 #[true, true, true, true, true, true, true, true, true, true, true, false, false, false, false, false] ?_ (any_of HT_.out (by kernel_rfl))
   refine kP 11 17 #[true, true, true, true, true, true, true, true, true, true, true, true, false, false, false, false] ?_ (any_of HT_.out (by kernel_rfl))
   refine kP 12 18 #[true, true, true, true, true, true, true, true, true, true, true, true, true, false, false, false] ?_ (any_of HT_.out (by kernel_rfl))
   refine one_ (i := 13) (N := some 19) #[true, true, true, true, true, true, true, true, true, true, true, true, true, true, false, false] rfl rfl (one_of HT_.out (by kernel_rfl)) (by decide) (fun K hK => ?_)
   refine goes_ Try.func10 (by kernel_rfl) rfl #[] (by rfl) rfl rfl kA ?_
   with_reducible refine (intrusionlaw12_lives.calls k  t544 _ A14.out).mono ?_
   rintro e w22 ⟨rfl, hb⟩
   refine ⟨_, rfl, ?_⟩
   replace BK515 := As (blk_below (kb BK515.out) hb)
   replace HB := As (below_step (kB1 HB.out GE515.out) hb)
   (try clear hb)
   (try clear hb2)
   (try clear hk)
   (try clear hi)
   refine hK.out _ _ ⟨(blk_cell BK515.out 0).trans rfl, (blk_cell BK515.out 1).trans rfl, (blk_cell BK515.out 2).trans rfl, (blk_cell BK515.out 3).trans rfl, (blk_cell BK515.out 4).trans rfl, (blk_cell BK515.out 5).trans rfl, (blk_cell BK515.out 6).trans rfl, (blk_cell BK515.out 7).trans rfl, (blk_cell BK515.out 8).trans rfl, (blk_cell BK515.out 9).trans rfl, (blk_cell BK515.out 10).trans rfl, (blk_cell BK515.out 11).trans rfl, (blk_cell BK515.out 12).trans rfl, (blk_cell BK515.out 13).trans rfl, (blk_cell BK515.out 14).trans rfl, (blk_cell BK515.out 15).trans rfl⟩ (fun hHeld => ?_)
   clear hK K
   refine norm_ (a' := ?_) ?_ ?_
   rotate_left
   ·show Act.put _ (some 19) _ = _
    simp only [Act.put, sA, sZ, sS, i64_w, i32_w]
    rfl
   refine kP 14 20 #[true, true, true, true, true, true, true, true, true, true, true, true, true, true, true, false] ?_ (any_of HT_.out (by kernel_rfl))
   refine kP 15 2 #[true, true, true, true, true, true, true, true, true, true, true, true, true, true, true, true] ?_ (any_of HT_.out (by kernel_rfl))
   refine done_ (done_of HT_.out (by kernel_rfl)) ?_
   try go_wp2
   go_ret
   exact ⟨kE, by exact kB1 HB.out GE515.out⟩
  rw [if_neg c13] at H
  have c13b0 : (t542 == t543) = false := by simpa using c13
  (try (have c13b1 : decide (t542 = t543) = false := by simpa using c13))
  (try (have c13b2 : (t542 == t543) = false := by simpa using c13))
  (try (have c13b3 : ¬ (t542 = t543) := by simpa using c13))
  clear c13
  exact absurd H (by simp)
 rw [if_neg c10] at H
 have c10b0 : ((t518 == t530 && (t519 == t531 && (t520 == t532))) && ((t521 == t533 && (t522 == t534 && (t523 == t535))) && (t524 == t536 && (t525 == t537 && (t526 == t538 && (t527 == t539 && (t528 == t540 && (t529.toList == t541.toList)))))))) = false := by simpa using c10
 clear c10
 exact absurd H (by simp)

end Go.Proofs.Ytljboandbjahdaa.X
-- short
