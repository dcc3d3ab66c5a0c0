/- What the functions of the translation that this claim's statement reaches compute, each proved by its walk. Written by xprint.py, a program of this claim's author, run over the kit's printer. -/
import Derived.Test.YtljboandbjahdaaX0
namespace Go.Proofs.Ytljboandbjahdaa.X
open Go.RowKit Go.Proofs.YtljboandbjahdaaW.PrintWords Go.Proofs.YtljboandbjahdaaW.PrintLast Go.Proofs.YtljboandbjahdaaW.PrintMore
attribute [local go_sem] max2_int min2_int max_two min_two max_three min_three max_four min_four   -- for this text's walks alone
set_option linter.unusedVariables false
set_option linter.unusedSimpArgs false

/-! ### intrusionref12_Long: function 14 -/
mutual
def intrusionref12_Long.l0 : Nat → Int → Int → Int → Int → Int → Int → Bool → Int → Int → Bool → Int → Int → List (S60) → Bool → Int → Int → Bool → ByteArray → Option (Bool)
 | 0, _, _, _, _, _, _, _, _, _, _, _, _, _, _, _, _, _, _ => none
 | k + 1, x1, x5, b0, b1, b2, b3, b4, b5, b6, b7, b8, b9, b10, b11, b12, b13, b14, b15 => if x5 < (b10.length : Int) then (intrusionref12_Long.j1 k x1 x5 (decide (x5 < 11)) b0 b1 b2 b3 b4 b5 b6 b7 b8 b9 b10 b11 b12 b13 b14 b15) else (intrusionref12_Long.j1 k x1 x5 false b0 b1 b2 b3 b4 b5 b6 b7 b8 b9 b10 b11 b12 b13 b14 b15)
def intrusionref12_Long.j1 : Nat → Int → Int → Bool → Int → Int → Int → Int → Bool → Int → Int → Bool → Int → Int → List (S60) → Bool → Int → Int → Bool → ByteArray → Option (Bool)
 | 0, _, _, _, _, _, _, _, _, _, _, _, _, _, _, _, _, _, _, _ => none
 | k + 1, x1, x5, x14, b0, b1, b2, b3, b4, b5, b6, b7, b8, b9, b10, b11, b12, b13, b14, b15 => if x14 = true then (if 0 ≤ x5 then (if x5 < (b10.length : Int) then (if (((rd_T60 b10 x5).f1).size : Int) > 2100 then (some true) else (intrusionref12_Long.l0 k x1 (wrap64 (x5 + 1)) b0 b1 b2 b3 b4 b5 b6 b7 b8 b9 b10 b11 b12 b13 b14 b15)) else (none)) else (none)) else (if (b10.length : Int) > 10 then (some true) else (some (decide ((b15.size : Int) > x1))))
end
def intrusionref12_Long.f (k : Nat) (d0 : Int) (d1 : Int) (d2 : Int) (d3 : Int) (d4 : Bool) (d5 : Int) (d6 : Int) (d7 : Bool) (d8 : Int) (d9 : Int) (l0_10 : List (S60)) (d11 : Bool) (d12 : Int) (d13 : Int) (d14 : Bool) (d15 : ByteArray) (a1 : Int) : Option (Bool) := intrusionref12_Long.l0 k a1 0 d0 d1 d2 d3 d4 d5 d6 d7 d8 d9 l0_10 d11 d12 d13 d14 d15
theorem intrusionref12_Long.mono_l : ∀ k, (∀ y0 y1 y2 y3 y4 y5 y6 y7 y8 y9 y10 y11 y12 y13 y14 y15 y16 y17, LeO (intrusionref12_Long.l0 k y0 y1 y2 y3 y4 y5 y6 y7 y8 y9 y10 y11 y12 y13 y14 y15 y16 y17) (intrusionref12_Long.l0 (k + 1) y0 y1 y2 y3 y4 y5 y6 y7 y8 y9 y10 y11 y12 y13 y14 y15 y16 y17)) ∧ (∀ y0 y1 y2 y3 y4 y5 y6 y7 y8 y9 y10 y11 y12 y13 y14 y15 y16 y17 y18, LeO (intrusionref12_Long.j1 k y0 y1 y2 y3 y4 y5 y6 y7 y8 y9 y10 y11 y12 y13 y14 y15 y16 y17 y18) (intrusionref12_Long.j1 (k + 1) y0 y1 y2 y3 y4 y5 y6 y7 y8 y9 y10 y11 y12 y13 y14 y15 y16 y17 y18))
 | 0 => ⟨fun _ _ _ _ _ _ _ _ _ _ _ _ _ _ _ _ _ _ r h => by simp [intrusionref12_Long.l0] at h, fun _ _ _ _ _ _ _ _ _ _ _ _ _ _ _ _ _ _ _ r h => by simp [intrusionref12_Long.j1] at h⟩
 | k + 1 => by
  obtain ⟨ih0, ih1⟩ := intrusionref12_Long.mono_l k
  refine ⟨?_, ?_⟩
  ·intro y0 y1 y2 y3 y4 y5 y6 y7 y8 y9 y10 y11 y12 y13 y14 y15 y16 y17
   unfold intrusionref12_Long.l0
   repeat' first | with_reducible first | apply ih0 | apply ih1 | apply LeO.refl | apply LeO.none | refine LeO.ite ?_ ?_ | refine LeO.bind ?_ (fun _ => ?_)
  intro y0 y1 y2 y3 y4 y5 y6 y7 y8 y9 y10 y11 y12 y13 y14 y15 y16 y17 y18
  unfold intrusionref12_Long.j1
  repeat' first | with_reducible first | apply ih0 | apply ih1 | apply LeO.refl | apply LeO.none | refine LeO.ite ?_ ?_ | refine LeO.bind ?_ (fun _ => ?_)
theorem intrusionref12_Long.mono : ∀ a0 a1 a2 a3 a4 a5 a6 a7 a8 a9 a10 a11 a12 a13 a14 a15 a16 k, LeO (intrusionref12_Long.f k a0 a1 a2 a3 a4 a5 a6 a7 a8 a9 a10 a11 a12 a13 a14 a15 a16) (intrusionref12_Long.f (k + 1) a0 a1 a2 a3 a4 a5 a6 a7 a8 a9 a10 a11 a12 a13 a14 a15 a16) := by
 intro a0 a1 a2 a3 a4 a5 a6 a7 a8 a9 a10 a11 a12 a13 a14 a15 a16 k
 obtain ⟨ih0, ih1⟩ := intrusionref12_Long.mono_l k
 unfold intrusionref12_Long.f
 repeat' first | with_reducible first | apply ih0 | apply ih1 | apply LeO.refl | apply LeO.none | refine LeO.ite ?_ ?_ | refine LeO.bind ?_ (fun _ => ?_)
set_option maxHeartbeats 8000000 in
set_option maxRecDepth 100000 in
theorem intrusionref12_Long.calls (k : Nat) (d0 : Int) (d1 : Int) (d2 : Int) (d3 : Int) (d4 : Bool) (d5 : Int) (d6 : Int) (d7 : Bool) (d8 : Int) (d9 : Int) (A0_10 : Option Addr) (c0_10 : Nat) (l0_10 : List (S60)) (d11 : Bool) (d12 : Int) (d13 : Int) (d14 : Bool) (d15 : ByteArray) (a1 : Int) (r : Bool) (w : World) (hr0_10 : Kd.C k60 w A0_10 l0_10.length l0_10) (hc0_10 : l0_10.length ≤ c0_10) (h : intrusionref12_Long.f k d0 d1 d2 d3 d4 d5 d6 d7 d8 d9 l0_10 d11 d12 d13 d14 d15 a1 = some r) :
  Calls Try.prog 14 #[.agg #[.int .i64 d0, .int .i64 d1, .int .i64 d2, .int .i64 d3, .bool d4, .int .u64 d5, .int .u64 d6, .bool d7, .int .u64 d8, .int .u64 d9, .slice A0_10 l0_10.length c0_10, .bool d11, .int .i64 d12, .int .i64 d13, .bool d14, .string d15], .int .i64 a1] w fun e w' => e = .returned (.bool r) ∧ Below w.heap.size w w' := by
 have hu28 := Try.underlying28
 have HR0_10 := As hr0_10
 have HC0_10 := As hc0_10
 clear hr0_10 hc0_10
 have HB := As (Below.refl w.heap.size w)
 have H : (intrusionref12_Long.l0 k a1 0 d0 d1 d2 d3 d4 d5 d6 d7 d8 d9 l0_10 d11 d12 d13 d14 d15) = some r := h
 clear h
 have H' := As H
 clear H
 go_enter Try.func14, Try.ntmps14
 go_wp2_with (first | ((with_reducible refine gate_dst (N := 2) rfl ?_); (try (refine gate_guard (by rfl) ?_; dsimp only)); refine box_event rfl (N := 2) rfl (cs := #[.int .i64 d0, .int .i64 d1, .int .i64 d2, .int .i64 d3, .bool d4, .int .u64 d5, .int .u64 d6, .bool d7, .int .u64 d8, .int .u64 d9, .slice A0_10 l0_10.length c0_10, .bool d11, .int .i64 d12, .int .i64 d13, .bool d14, .string d15]) (t := 28) kG ?_; intro gb442 hg w3 hbox hb; have BK442 := As (hbox); have GW442 := As ((by rw [hg]; exact (below_size (kB HB.out)) : w.heap.size ≤ gb442)); have GE442 := As ((by rw [hg]; exact (below_size (kB HB.out)) : w.heap.size ≤ gb442)); replace HB := As (below_step (kB HB.out) hb); clear hb hbox hg))
 go_loopg [5] k (fun kq v5 w' => ∃ (x5_1 : Int), v5 = .int .i64 x5_1 ∧ Aside0 (intrusionref12_Long.l0 kq a1 x5_1 d0 d1 d2 d3 d4 d5 d6 d7 d8 d9 l0_10 d11 d12 d13 d14 d15 = some r) ∧ Aside0 (kq ≤ k) ∧ Aside0 (w'.heap[gb442]? = some (.cells #[.int .i64 d0, .int .i64 d1, .int .i64 d2, .int .i64 d3, .bool d4, .int .u64 d5, .int .u64 d6, .bool d7, .int .u64 d8, .int .u64 d9, (.slice A0_10 l0_10.length c0_10), .bool d11, .int .i64 d12, .int .i64 d13, .bool d14, .string d15] 28 (0, 0))) ∧ Aside0 (Below w.heap.size w w'))
 case atStart => exact ⟨(0), kS, H', ⟨Nat.le_refl _⟩, ⟨kb BK442.out⟩, ⟨kB1 HB.out GE442.out⟩⟩
 clear H'
 obtain ⟨x5_1, rfl, HA, HK1, BK442, HB⟩ := hrel
 cases gk with
 | zero => exact absurd HA.out (by simp [intrusionref12_Long.l0])
 | succ k1 =>
  have H := HA.out
  clear HA
  simp only [intrusionref12_Long.l0] at H
  have HC4 := As H
  clear H
  go_upto_region 2 with (fail)
  go_cut [14] (fun v14 wc => ∃ (kq : Nat) (x14_3 : Bool), v14 = .bool x14_3 ∧ Aside0 (intrusionref12_Long.j1 kq a1 x5_1 x14_3 d0 d1 d2 d3 d4 d5 d6 d7 d8 d9 l0_10 d11 d12 d13 d14 d15 = some r) ∧ Aside0 (kq ≤ k1) ∧ Aside0 (wc.heap[gb442]? = some (.cells #[.int .i64 d0, .int .i64 d1, .int .i64 d2, .int .i64 d3, .bool d4, .int .u64 d5, .int .u64 d6, .bool d7, .int .u64 d8, .int .u64 d9, (.slice A0_10 l0_10.length c0_10), .bool d11, .int .i64 d12, .int .i64 d13, .bool d14, .string d15] 28 (0, 0))) ∧ Aside0 (Below w.heap.size w wc))
  case first =>
   have H := HC4.out
   clear HC4
   by_cases c5 : x5_1 < (l0_10.length : Int)
   ·rw [if_pos c5] at H
    have c5b0 : decide (x5_1 < (l0_10.length : Int)) = true := decide_eq_true c5
    clear c5
    (first | rw [c5b0] | (simp only [i64_w, i32_w]; rw [c5b0]) | skip)
    have H' := As H
    clear H
    have hcz6_0 := cells_16 BK442.out
    have hfz6_0 := fun j_ => blk_frozen BK442.out j_
    go_wp2
    go_meet
    case rel => exact ⟨_, (decide (x5_1 < 11)), kS, H', ⟨by have := HK1.out; first | omega | exact Nat.le_refl _⟩, ⟨kb BK442.out⟩, ⟨kB1 HB.out GE442.out⟩⟩
   rw [if_neg c5] at H
   have c5b0 : decide (x5_1 < (l0_10.length : Int)) = false := decide_eq_false c5
   clear c5
   (first | rw [c5b0] | (simp only [i64_w, i32_w]; rw [c5b0]) | skip)
   have H' := As H
   clear H
   have hcz7_0 := cells_16 BK442.out
   have hfz7_0 := fun j_ => blk_frozen BK442.out j_
   go_wp2
   go_meet
   case rel => exact ⟨_, (false), kS, H', ⟨by have := HK1.out; first | omega | exact Nat.le_refl _⟩, ⟨kb BK442.out⟩, ⟨kB1 HB.out GE442.out⟩⟩
  clear HC4
  obtain ⟨kq, x14_3, rfl, HA, HJ3, BK442, HB⟩ := hcut
  cases kq with
  | zero => exact absurd HA.out (by simp [intrusionref12_Long.j1])
  | succ kj3 =>
   have H := HA.out
   clear HA
   simp only [intrusionref12_Long.j1] at H
   by_cases c8 : x14_3 = true
   ·subst c8
    have H1 : (if 0 ≤ x5_1 then (if x5_1 < (l0_10.length : Int) then (if (((rd_T60 l0_10 x5_1).f1).size : Int) > 2100 then (some true) else (intrusionref12_Long.l0 kj3 a1 (wrap64 (x5_1 + 1)) d0 d1 d2 d3 d4 d5 d6 d7 d8 d9 l0_10 d11 d12 d13 d14 d15)) else (none)) else (none)) = some r := by rw [if_pos rfl] at H; exact H
    clear H
    have H := H1
    clear H1
    by_cases c9 : 0 ≤ x5_1
    ·rw [if_pos c9] at H
     have c9b0 : decide (0 ≤ x5_1) = true := decide_eq_true c9
     clear c9
     by_cases c10 : x5_1 < (l0_10.length : Int)
     ·rw [if_pos c10] at H
      have c10b0 : decide (x5_1 < (l0_10.length : Int)) = true := decide_eq_true c10
      clear c10
      by_cases c11 : (((rd_T60 l0_10 x5_1).f1).size : Int) > 2100
      ·rw [if_pos c11] at H
       have c11b0 : decide (2100 < (((rd_T60 l0_10 x5_1).f1).size : Int)) = true := decide_eq_true c11
       have c11b1 : decide (2100 < ((rd_T60 l0_10 x5_1).f1).size) = true := decide_eq_true (by omega)
       clear c11
       obtain rfl := Option.some.inj H
       have hcz12_0 := cells_16 BK442.out
       have hfz12_0 := fun j_ => blk_frozen BK442.out j_
       have p443 : 0 ≤ (x5_1 : Int) := of_decide_eq_true (by first | (with_reducible assumption) | assumption)
       have q443 : x5_1 < (l0_10.length : Int) := of_decide_eq_true (by first | (with_reducible assumption) | assumption)
       obtain ⟨ad443, e443, hx443_0, hx443_1⟩ := at_T60 HR0_10.out x5_1 p443 q443
       cases e443
       replace hx443_0 := hcell HB.out hx443_0
       replace hx443_1 := hcell HB.out hx443_1
       replace p443 := eq_true p443
       replace q443 := eq_true q443
       go_wp2
       go_ret
       exact ⟨kE, by exact kB1 HB.out GE442.out⟩
      rw [if_neg c11] at H
      have c11b0 : decide (2100 < (((rd_T60 l0_10 x5_1).f1).size : Int)) = false := decide_eq_false c11
      have c11b1 : decide (2100 < ((rd_T60 l0_10 x5_1).f1).size) = false := decide_eq_false (by omega)
      clear c11
      have H' := As H
      clear H
      have hcz13_0 := cells_16 BK442.out
      have hfz13_0 := fun j_ => blk_frozen BK442.out j_
      have p443 : 0 ≤ (x5_1 : Int) := of_decide_eq_true (by first | (with_reducible assumption) | assumption)
      have q443 : x5_1 < (l0_10.length : Int) := of_decide_eq_true (by first | (with_reducible assumption) | assumption)
      obtain ⟨ad443, e443, hx443_0, hx443_1⟩ := at_T60 HR0_10.out x5_1 p443 q443
      cases e443
      replace hx443_0 := hcell HB.out hx443_0
      replace hx443_1 := hcell HB.out hx443_1
      replace p443 := eq_true p443
      replace q443 := eq_true q443
      go_wp2
      go_roundg kj3
      case measure => have := HK1.out; have := HJ3.out; omega
      case rel => exact ⟨(wrap64 (x5_1 + 1)), kS, H', ⟨by have := HK1.out; have := HJ3.out; omega⟩, ⟨kb BK442.out⟩, ⟨kB1 HB.out GE442.out⟩⟩
     rw [if_neg c10] at H
     exact absurd H (by simp)
    rw [if_neg c9] at H
    exact absurd H (by simp)
   replace c8 := Bool.eq_false_iff.mpr c8
   subst c8
   have H1 : (if (l0_10.length : Int) > 10 then (some true) else (some (decide ((d15.size : Int) > a1)))) = some r := by rw [if_neg (show ¬ (false = true) by decide)] at H; exact H
   clear H
   have H := H1
   clear H1
   by_cases c14 : (l0_10.length : Int) > 10
   ·rw [if_pos c14] at H
    have c14b0 : decide (10 < (l0_10.length : Int)) = true := decide_eq_true c14
    have c14b1 : decide (10 < l0_10.length) = true := decide_eq_true (by omega)
    clear c14
    obtain rfl := Option.some.inj H
    have hcz15_0 := cells_16 BK442.out
    have hfz15_0 := fun j_ => blk_frozen BK442.out j_
    go_wp2
    go_ret
    exact ⟨kE, by exact kB1 HB.out GE442.out⟩
   rw [if_neg c14] at H
   have c14b0 : decide (10 < (l0_10.length : Int)) = false := decide_eq_false c14
   have c14b1 : decide (10 < l0_10.length) = false := decide_eq_false (by omega)
   clear c14
   obtain rfl := Option.some.inj H
   have hcz16_0 := cells_16 BK442.out
   have hfz16_0 := fun j_ => blk_frozen BK442.out j_
   go_wp2
   go_ret
   exact ⟨kE, by exact kB1 HB.out GE442.out⟩

end Go.Proofs.Ytljboandbjahdaa.X
-- short
