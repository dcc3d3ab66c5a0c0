/- Functions and their walks, printed by xprint.py. -/
import Derived.Test.YtafjmciojeondaaX0
import Derived.Test.YtafjmciojeondaaX7
import Derived.Test.YtafjmciojeondaaX8
import Derived.Test.YtafjmciojeondaaX9
namespace Go.Proofs.Ytafjmciojeondaa.X
open Go.RowKit Go.Proofs.YtafjmciojeondaaW.PrintWords Go.Proofs.YtafjmciojeondaaW.PrintLast Go.Proofs.YtafjmciojeondaaW.PrintMore
attribute [local go_sem] max2_int min2_int max_two min_two max_three min_three max_four min_four   -- for this text's walks alone
set_option linter.unusedVariables false
set_option linter.unusedSimpArgs false

/-! ### intrusionref09_Merge: function 19 -/
mutual
def intrusionref09_Merge.l0 : Nat → List (S33) → List (S33) → List (S33) → Int → Int → Option ((List (S33)))
 | 0, _, _, _, _, _ => none
 | k + 1, x0, x1, x5, x6, x7 => if x6 < (x0.length : Int) then (intrusionref09_Merge.j1 k x0 x1 x5 x6 x7 true) else (intrusionref09_Merge.j1 k x0 x1 x5 x6 x7 (decide (x7 < (x1.length : Int))))
def intrusionref09_Merge.j1 : Nat → List (S33) → List (S33) → List (S33) → Int → Int → Bool → Option ((List (S33)))
 | 0, _, _, _, _, _, _ => none
 | k + 1, x0, x1, x5, x6, x7, x17 => if x17 = true then (if x7 = (x1.length : Int) then (if 0 ≤ x6 then (if x6 < (x0.length : Int) then (if x5.length < 4398046511104 then (intrusionref09_Merge.l0 k x0 x1 (x5 ++ [(⟨(rd_T33 x0 x6).f0, (rd_T33 x0 x6).f1, (rd_T33 x0 x6).f2⟩ : S33)]) (wrap64 (x6 + 1)) x7) else (none)) else (none)) else (none)) else (if x6 < (x0.length : Int) then (if 0 ≤ x6 then (if 0 ≤ x7 then (if x7 < (x1.length : Int) then (if ((rd_T33 x0 x6).f0) ≤ ((rd_T33 x1 x7).f0) then (if x5.length < 4398046511104 then (intrusionref09_Merge.l0 k x0 x1 (x5 ++ [(⟨(rd_T33 x0 x6).f0, (rd_T33 x0 x6).f1, (rd_T33 x0 x6).f2⟩ : S33)]) (wrap64 (x6 + 1)) x7) else (none)) else (if x5.length < 4398046511104 then (intrusionref09_Merge.l0 k x0 x1 (x5 ++ [(⟨(rd_T33 x1 x7).f0, (rd_T33 x1 x7).f1, (rd_T33 x1 x7).f2⟩ : S33)]) x6 (wrap64 (x7 + 1))) else (none))) else (none)) else (none)) else (none)) else (if 0 ≤ x7 then (if x7 < (x1.length : Int) then (if x5.length < 4398046511104 then (intrusionref09_Merge.l0 k x0 x1 (x5 ++ [(⟨(rd_T33 x1 x7).f0, (rd_T33 x1 x7).f1, (rd_T33 x1 x7).f2⟩ : S33)]) x6 (wrap64 (x7 + 1))) else (none)) else (none)) else (none)))) else (some x5)
end
def intrusionref09_Merge.f (k : Nat) (l0 : List (S33)) (l1 : List (S33)) : Option ((List (S33))) := intrusionref09_Merge.l0 k l0 l1 ([] : List (S33)) 0 0
theorem intrusionref09_Merge.mono_l : ∀ k, (∀ y0 y1 y2 y3 y4, LeO (intrusionref09_Merge.l0 k y0 y1 y2 y3 y4) (intrusionref09_Merge.l0 (k + 1) y0 y1 y2 y3 y4)) ∧ (∀ y0 y1 y2 y3 y4 y5, LeO (intrusionref09_Merge.j1 k y0 y1 y2 y3 y4 y5) (intrusionref09_Merge.j1 (k + 1) y0 y1 y2 y3 y4 y5))
 | 0 => ⟨fun _ _ _ _ _ r h => by simp [intrusionref09_Merge.l0] at h, fun _ _ _ _ _ _ r h => by simp [intrusionref09_Merge.j1] at h⟩
 | k + 1 => by
  obtain ⟨ih0, ih1⟩ := intrusionref09_Merge.mono_l k
  refine ⟨?_, ?_⟩
  ·intro y0 y1 y2 y3 y4
   unfold intrusionref09_Merge.l0
   repeat' first | with_reducible first | apply ih0 | apply ih1 | apply LeO.refl | apply LeO.none | refine LeO.ite ?_ ?_ | refine LeO.bind ?_ (fun _ => ?_)
  intro y0 y1 y2 y3 y4 y5
  unfold intrusionref09_Merge.j1
  repeat' first | with_reducible first | apply ih0 | apply ih1 | apply LeO.refl | apply LeO.none | refine LeO.ite ?_ ?_ | refine LeO.bind ?_ (fun _ => ?_)
theorem intrusionref09_Merge.mono : ∀ a0 a1 k, LeO (intrusionref09_Merge.f k a0 a1) (intrusionref09_Merge.f (k + 1) a0 a1) := by
 intro a0 a1 k
 obtain ⟨ih0, ih1⟩ := intrusionref09_Merge.mono_l k
 unfold intrusionref09_Merge.f
 repeat' first | with_reducible first | apply ih0 | apply ih1 | apply LeO.refl | apply LeO.none | refine LeO.ite ?_ ?_ | refine LeO.bind ?_ (fun _ => ?_)
set_option maxHeartbeats 8000000 in
set_option maxRecDepth 100000 in
theorem intrusionref09_Merge.calls (k : Nat) (A0 : Option Addr) (c0 : Nat) (l0 : List (S33)) (A1 : Option Addr) (c1 : Nat) (l1 : List (S33)) (r : List (S33)) (w : World) (hr0 : Kd.C k33 w A0 l0.length l0) (hc0 : l0.length ≤ c0) (hr1 : Kd.C k33 w A1 l1.length l1) (hc1 : l1.length ≤ c1) (h : intrusionref09_Merge.f k l0 l1 = some r) :
  Calls Try.prog 19 #[.slice A0 l0.length c0, .slice A1 l1.length c1] w fun e w' => ∃ v0_ : Value, e = .returned (v0_) ∧ Kd.R k33 33 w' w.heap.size (fun _ => True) v0_ r ∧ Below w.heap.size w w' := by
 have hu33 := Try.underlying33
 have HR0 := As hr0
 have HC0 := As hc0
 clear hr0 hc0
 have HR1 := As hr1
 have HC1 := As hc1
 clear hr1 hc1
 have HB := As (Below.refl w.heap.size w)
 have H : (intrusionref09_Merge.l0 k l0 l1 ([] : List (S33)) 0 0) = some r := h
 clear h
 have H' := As H
 clear H
 go_enter Try.func19, Try.ntmps19
 go_wp2
 repeat (go_quiet (fail); try go_wp2)
 go_loopg [5, 6, 7] k (fun kq v5 v6 v7 w' => ∃ (x5_1 : List (S33)) (x6_1 : Int) (x7_1 : Int), v6 = .int .i64 x6_1 ∧ v7 = .int .i64 x7_1 ∧ Aside0 (intrusionref09_Merge.l0 kq l0 l1 x5_1 x6_1 x7_1 = some r) ∧ Aside0 (kq ≤ k) ∧ Aside0 (Kd.R k33 33 w' w.heap.size (fun _ => True) v5 x5_1) ∧ Aside0 (Below w.heap.size w w'))
 case atStart => exact ⟨(([] : List (S33))), (0), (0), kS, kS, H', ⟨Nat.le_refl _⟩, ⟨by first | exact Kd.R_nil _ _ _ _ _ | exact Kd.N_nil _ _ _ _ _ | exact Kd.V_nil _ _ _ _ _ | exact Kd.Q_nil _ _ _ _ _ | exact Kd.S_nil _ _ _ _ _⟩, ⟨kB HB.out⟩⟩
 clear H'
 try clear c1
 obtain ⟨x5_1, x6_1, x7_1, rfl, rfl, HA, HK1, HO_5, HB⟩ := hrel
 cases gk with
 | zero => exact absurd HA.out (by simp [intrusionref09_Merge.l0])
 | succ k1 =>
  have H := HA.out
  clear HA
  simp only [intrusionref09_Merge.l0] at H
  have HC3 := As H
  clear H
  go_upto_region 3 with (fail)
  repeat (go_quiet (fail); go_upto_region 3 with (fail))
  go_cut [17] (fun v17 wc => ∃ (kq : Nat) (x17_2 : Bool), v17 = .bool x17_2 ∧ Aside0 (intrusionref09_Merge.j1 kq l0 l1 x5_1 x6_1 x7_1 x17_2 = some r) ∧ Aside0 (kq ≤ k1) ∧ Aside0 (Kd.R k33 33 wc w.heap.size (fun _ => True) u5 x5_1) ∧ Aside0 (Below w.heap.size w wc))
  case first =>
   have H := HC3.out
   clear HC3
   by_cases c4 : x6_1 < (l0.length : Int)
   ·rw [if_pos c4] at H
    have c4b0 : decide (x6_1 < (l0.length : Int)) = true := decide_eq_true c4
    clear c4
    (first | rw [c4b0] | (simp only [i64_w, i32_w]; rw [c4b0]) | skip)
    have H' := As H
    clear H
    go_wp2
    repeat (go_quiet (fail); try go_wp2)
    go_meet
    case rel => exact ⟨_, (true), kS, H', ⟨by have := HK1.out; first | omega | exact Nat.le_refl _⟩, ⟨by (with_reducible repeat (first | apply Kd.R_alloc | apply Kd.R_drewN | apply Kd.R_drew)); exact HO_5.out⟩, ⟨kB HB.out⟩⟩
   rw [if_neg c4] at H
   have c4b0 : decide (x6_1 < (l0.length : Int)) = false := decide_eq_false c4
   clear c4
   (first | rw [c4b0] | (simp only [i64_w, i32_w]; rw [c4b0]) | skip)
   have H' := As H
   clear H
   go_wp2
   repeat (go_quiet (fail); try go_wp2)
   go_meet
   case rel => exact ⟨_, (decide (x7_1 < (l1.length : Int))), kS, H', ⟨by have := HK1.out; first | omega | exact Nat.le_refl _⟩, ⟨by (with_reducible repeat (first | apply Kd.R_alloc | apply Kd.R_drewN | apply Kd.R_drew)); exact HO_5.out⟩, ⟨kB HB.out⟩⟩
  clear HC3
  obtain ⟨kq, x17_2, rfl, HA, HJ2, HO_5, HB⟩ := hcut
  cases kq with
  | zero => exact absurd HA.out (by simp [intrusionref09_Merge.j1])
  | succ kj2 =>
   have H := HA.out
   clear HA
   simp only [intrusionref09_Merge.j1] at H
   by_cases c5 : x17_2 = true
   ·subst c5
    have H1 : (if x7_1 = (l1.length : Int) then (if 0 ≤ x6_1 then (if x6_1 < (l0.length : Int) then (if x5_1.length < 4398046511104 then (intrusionref09_Merge.l0 kj2 l0 l1 (x5_1 ++ [(⟨(rd_T33 l0 x6_1).f0, (rd_T33 l0 x6_1).f1, (rd_T33 l0 x6_1).f2⟩ : S33)]) (wrap64 (x6_1 + 1)) x7_1) else (none)) else (none)) else (none)) else (if x6_1 < (l0.length : Int) then (if 0 ≤ x6_1 then (if 0 ≤ x7_1 then (if x7_1 < (l1.length : Int) then (if ((rd_T33 l0 x6_1).f0) ≤ ((rd_T33 l1 x7_1).f0) then (if x5_1.length < 4398046511104 then (intrusionref09_Merge.l0 kj2 l0 l1 (x5_1 ++ [(⟨(rd_T33 l0 x6_1).f0, (rd_T33 l0 x6_1).f1, (rd_T33 l0 x6_1).f2⟩ : S33)]) (wrap64 (x6_1 + 1)) x7_1) else (none)) else (if x5_1.length < 4398046511104 then (intrusionref09_Merge.l0 kj2 l0 l1 (x5_1 ++ [(⟨(rd_T33 l1 x7_1).f0, (rd_T33 l1 x7_1).f1, (rd_T33 l1 x7_1).f2⟩ : S33)]) x6_1 (wrap64 (x7_1 + 1))) else (none))) else (none)) else (none)) else (none)) else (if 0 ≤ x7_1 then (if x7_1 < (l1.length : Int) then (if x5_1.length < 4398046511104 then (intrusionref09_Merge.l0 kj2 l0 l1 (x5_1 ++ [(⟨(rd_T33 l1 x7_1).f0, (rd_T33 l1 x7_1).f1, (rd_T33 l1 x7_1).f2⟩ : S33)]) x6_1 (wrap64 (x7_1 + 1))) else (none)) else (none)) else (none)))) = some r := by rw [if_pos rfl] at H; exact H
    clear H
    have H := H1
    clear H1
    by_cases c6 : x7_1 = (l1.length : Int)
    ·rw [if_pos c6] at H
     have c6b0 : (x7_1 == (l1.length : Int)) = true := beq_iff_eq.mpr c6
     have c6b1 : (x7_1 != (l1.length : Int)) = false := bne_eq_false_iff_eq.mpr c6
     clear c6
     by_cases c7 : 0 ≤ x6_1
     ·rw [if_pos c7] at H
      have c7b0 : decide (0 ≤ x6_1) = true := decide_eq_true c7
      clear c7
      by_cases c8 : x6_1 < (l0.length : Int)
      ·rw [if_pos c8] at H
       have c8b0 : decide (x6_1 < (l0.length : Int)) = true := decide_eq_true c8
       clear c8
       by_cases c9 : x5_1.length < 4398046511104
       ·rw [if_pos c9] at H
        have LMc9 := As c9
        clear c9
        obtain ⟨y421, hy421⟩ : ∃ y_ : List (S33), y_ = (x5_1 ++ [(⟨(rd_T33 l0 x6_1).f0, (rd_T33 l0 x6_1).f1, (rd_T33 l0 x6_1).f2⟩ : S33)]) := ⟨_, rfl⟩
        replace H : (intrusionref09_Merge.l0 kj2 l0 l1 y421 (wrap64 (x6_1 + 1)) x7_1) = some r := by first | (rw [hy421]; with_reducible exact H) | (have H2_ := (Option.bind_some _ _).symm.trans H; rw [hy421]; with_reducible exact H2_) | (have H2_ := (Option.bind_some _ _).symm.trans H; with_reducible exact H2_) | with_reducible exact H | (rw [hy421]; exact H) | exact H
        have Ny421 := As hy421
        clear hy421
        have H' := As H
        clear H
        have p420 : 0 ≤ (x6_1 : Int) := of_decide_eq_true (by first | (with_reducible assumption) | assumption)
        have q420 : x6_1 < (l0.length : Int) := of_decide_eq_true (by first | (with_reducible assumption) | assumption)
        obtain ⟨ad420, e420, hx420_0, hx420_1, hx420_2⟩ := at_T33 HR0.out x6_1 p420 q420
        cases e420
        replace hx420_0 := hcell HB.out hx420_0
        replace hx420_1 := hcell HB.out hx420_1
        replace hx420_2 := hcell HB.out hx420_2
        replace p420 := eq_true p420
        replace q420 := eq_true q420
        go_wp2_with (first | ((with_reducible refine gate_builtin (b := .append) (xs := #[.tmp 41, .tmp 46]) rfl ?_); (try (refine gate_guard (by rfl) ?_; dsimp only)); at_builtin; refine Kd.R_append k33 (w0 := w) w.heap.size rfl (.tmp 41) (.tmp 46) 23 33 (.agg #[(.int .i64 0), (.int .i64 0), (.string ⟨#[]⟩)]) 32 rfl Try.underlying23 info33 rfl (by decide) (by omega) u5 x5_1 (⟨(rd_T33 l0 x6_1).f0, (rd_T33 l0 x6_1).f1, (rd_T33 l0 x6_1).f2⟩ : S33) [.int .i64 ((rd_T33 l0 x6_1).f0), .int .i64 ((rd_T33 l0 x6_1).f1), .string ((rd_T33 l0 x6_1).f2)] (fun _ => True) (fun _ => False) rfl rfl ?aP (fun _ hk => hk.elim) ?aF ?aO ?aB ?aS ?aL ?_; (case aP => exact k33_mkM _ _ _ (⟨(rd_T33 l0 x6_1).f0, (rd_T33 l0 x6_1).f1, (rd_T33 l0 x6_1).f2⟩ : S33)); (case aB => exact (kB HB.out)); (case aF => exact (fun _ _ => trivial)); (case aO => exact (kR HO_5.out)); (case aS => exact (below_size (kB HB.out))); (case aL => have := LMc9.out; omega); intro v422 w10 ho hb hg hat; rw [← Ny421.out] at ho; replace HB := As (hb); have HO423 := As (ho); clear HO_5; clear ho hb hg hat))
        repeat (go_quiet (first | ((with_reducible refine gate_builtin (b := .append) (xs := #[.tmp 41, .tmp 46]) rfl ?_); (try (refine gate_guard (by rfl) ?_; dsimp only)); at_builtin; refine Kd.R_append k33 (w0 := w) w.heap.size rfl (.tmp 41) (.tmp 46) 23 33 (.agg #[(.int .i64 0), (.int .i64 0), (.string ⟨#[]⟩)]) 32 rfl Try.underlying23 info33 rfl (by decide) (by omega) u5 x5_1 (⟨(rd_T33 l0 x6_1).f0, (rd_T33 l0 x6_1).f1, (rd_T33 l0 x6_1).f2⟩ : S33) [.int .i64 ((rd_T33 l0 x6_1).f0), .int .i64 ((rd_T33 l0 x6_1).f1), .string ((rd_T33 l0 x6_1).f2)] (fun _ => True) (fun _ => False) rfl rfl ?aP (fun _ hk => hk.elim) ?aF ?aO ?aB ?aS ?aL ?_; (case aP => exact k33_mkM _ _ _ (⟨(rd_T33 l0 x6_1).f0, (rd_T33 l0 x6_1).f1, (rd_T33 l0 x6_1).f2⟩ : S33)); (case aB => exact (kB HB.out)); (case aF => exact (fun _ _ => trivial)); (case aO => exact (kR HO_5.out)); (case aS => exact (below_size (kB HB.out))); (case aL => have := LMc9.out; omega); intro v422 w10 ho hb hg hat; rw [← Ny421.out] at ho; replace HB := As (hb); have HO423 := As (ho); clear HO_5; clear ho hb hg hat)); try go_wp2_with (first | ((with_reducible refine gate_builtin (b := .append) (xs := #[.tmp 41, .tmp 46]) rfl ?_); (try (refine gate_guard (by rfl) ?_; dsimp only)); at_builtin; refine Kd.R_append k33 (w0 := w) w.heap.size rfl (.tmp 41) (.tmp 46) 23 33 (.agg #[(.int .i64 0), (.int .i64 0), (.string ⟨#[]⟩)]) 32 rfl Try.underlying23 info33 rfl (by decide) (by omega) u5 x5_1 (⟨(rd_T33 l0 x6_1).f0, (rd_T33 l0 x6_1).f1, (rd_T33 l0 x6_1).f2⟩ : S33) [.int .i64 ((rd_T33 l0 x6_1).f0), .int .i64 ((rd_T33 l0 x6_1).f1), .string ((rd_T33 l0 x6_1).f2)] (fun _ => True) (fun _ => False) rfl rfl ?aP (fun _ hk => hk.elim) ?aF ?aO ?aB ?aS ?aL ?_; (case aP => exact k33_mkM _ _ _ (⟨(rd_T33 l0 x6_1).f0, (rd_T33 l0 x6_1).f1, (rd_T33 l0 x6_1).f2⟩ : S33)); (case aB => exact (kB HB.out)); (case aF => exact (fun _ _ => trivial)); (case aO => exact (kR HO_5.out)); (case aS => exact (below_size (kB HB.out))); (case aL => have := LMc9.out; omega); intro v422 w10 ho hb hg hat; rw [← Ny421.out] at ho; replace HB := As (hb); have HO423 := As (ho); clear HO_5; clear ho hb hg hat)))
        go_roundg kj2
        case measure => have := HK1.out; have := HJ2.out; omega
        case rel => exact ⟨(y421), (wrap64 (x6_1 + 1)), (x7_1), kS, kS, H', ⟨by have := HK1.out; have := HJ2.out; omega⟩, ⟨by (with_reducible repeat (first | apply Kd.R_alloc | apply Kd.R_drewN | apply Kd.R_drew)); exact HO423.out⟩, ⟨kB HB.out⟩⟩
       rw [if_neg c9] at H
       exact absurd H (by simp)
      rw [if_neg c8] at H
      exact absurd H (by simp)
     rw [if_neg c7] at H
     exact absurd H (by simp)
    rw [if_neg c6] at H
    have c6b0 : (x7_1 == (l1.length : Int)) = false := beq_eq_false_iff_ne.mpr c6
    have c6b1 : (x7_1 != (l1.length : Int)) = true := bne_iff_ne.mpr c6
    by_cases c11 : x6_1 < (l0.length : Int)
    ·rw [if_pos c11] at H
     have c11b0 : decide (x6_1 < (l0.length : Int)) = true := decide_eq_true c11
     clear c11
     by_cases c12 : 0 ≤ x6_1
     ·rw [if_pos c12] at H
      have c12b0 : decide (0 ≤ x6_1) = true := decide_eq_true c12
      clear c12
      by_cases c13 : 0 ≤ x7_1
      ·rw [if_pos c13] at H
       have c13b0 : decide (0 ≤ x7_1) = true := decide_eq_true c13
       clear c13
       by_cases c14 : x7_1 < (l1.length : Int)
       ·rw [if_pos c14] at H
        have c14b0 : decide (x7_1 < (l1.length : Int)) = true := decide_eq_true c14
        clear c14
        by_cases c15 : ((rd_T33 l0 x6_1).f0) ≤ ((rd_T33 l1 x7_1).f0)
        ·rw [if_pos c15] at H
         have c15b0 : decide (((rd_T33 l0 x6_1).f0) ≤ ((rd_T33 l1 x7_1).f0)) = true := decide_eq_true c15
         clear c15
         by_cases c16 : x5_1.length < 4398046511104
         ·rw [if_pos c16] at H
          have LMc16 := As c16
          clear c16
          obtain ⟨y427, hy427⟩ : ∃ y_ : List (S33), y_ = (x5_1 ++ [(⟨(rd_T33 l0 x6_1).f0, (rd_T33 l0 x6_1).f1, (rd_T33 l0 x6_1).f2⟩ : S33)]) := ⟨_, rfl⟩
          replace H : (intrusionref09_Merge.l0 kj2 l0 l1 y427 (wrap64 (x6_1 + 1)) x7_1) = some r := by first | (rw [hy427]; with_reducible exact H) | (have H2_ := (Option.bind_some _ _).symm.trans H; rw [hy427]; with_reducible exact H2_) | (have H2_ := (Option.bind_some _ _).symm.trans H; with_reducible exact H2_) | with_reducible exact H | (rw [hy427]; exact H) | exact H
          have Ny427 := As hy427
          clear hy427
          have H' := As H
          clear H
          have p424 : 0 ≤ (x6_1 : Int) := of_decide_eq_true (by first | (with_reducible assumption) | assumption)
          have q424 : x6_1 < (l0.length : Int) := of_decide_eq_true (by first | (with_reducible assumption) | assumption)
          obtain ⟨ad424, e424, hx424_0, hx424_1, hx424_2⟩ := at_T33 HR0.out x6_1 p424 q424
          cases e424
          replace hx424_0 := hcell HB.out hx424_0
          replace hx424_1 := hcell HB.out hx424_1
          replace hx424_2 := hcell HB.out hx424_2
          replace p424 := eq_true p424
          replace q424 := eq_true q424
          have p425 : 0 ≤ (x7_1 : Int) := of_decide_eq_true (by first | (with_reducible assumption) | assumption)
          have q425 : x7_1 < (l1.length : Int) := of_decide_eq_true (by first | (with_reducible assumption) | assumption)
          obtain ⟨ad425, e425, hx425_0, hx425_1, hx425_2⟩ := at_T33 HR1.out x7_1 p425 q425
          cases e425
          replace hx425_0 := hcell HB.out hx425_0
          replace hx425_1 := hcell HB.out hx425_1
          replace hx425_2 := hcell HB.out hx425_2
          replace p425 := eq_true p425
          replace q425 := eq_true q425
          have p426 : 0 ≤ (x6_1 : Int) := of_decide_eq_true (by first | (with_reducible assumption) | assumption)
          have q426 : x6_1 < (l0.length : Int) := of_decide_eq_true (by first | (with_reducible assumption) | assumption)
          obtain ⟨ad426, e426, hx426_0, hx426_1, hx426_2⟩ := at_T33 HR0.out x6_1 p426 q426
          obtain rfl : ad424 = ad426 := (by injection e426)
          replace hx426_0 := hcell HB.out hx426_0
          replace hx426_1 := hcell HB.out hx426_1
          replace hx426_2 := hcell HB.out hx426_2
          replace p426 := eq_true p426
          replace q426 := eq_true q426
          go_wp2_with (first | ((with_reducible refine gate_builtin (b := .append) (xs := #[.tmp 41, .tmp 46]) rfl ?_); (try (refine gate_guard (by rfl) ?_; dsimp only)); at_builtin; refine Kd.R_append k33 (w0 := w) w.heap.size rfl (.tmp 41) (.tmp 46) 23 33 (.agg #[(.int .i64 0), (.int .i64 0), (.string ⟨#[]⟩)]) 32 rfl Try.underlying23 info33 rfl (by decide) (by omega) u5 x5_1 (⟨(rd_T33 l0 x6_1).f0, (rd_T33 l0 x6_1).f1, (rd_T33 l0 x6_1).f2⟩ : S33) [.int .i64 ((rd_T33 l0 x6_1).f0), .int .i64 ((rd_T33 l0 x6_1).f1), .string ((rd_T33 l0 x6_1).f2)] (fun _ => True) (fun _ => False) rfl rfl ?aP (fun _ hk => hk.elim) ?aF ?aO ?aB ?aS ?aL ?_; (case aP => exact k33_mkM _ _ _ (⟨(rd_T33 l0 x6_1).f0, (rd_T33 l0 x6_1).f1, (rd_T33 l0 x6_1).f2⟩ : S33)); (case aB => exact (kB HB.out)); (case aF => exact (fun _ _ => trivial)); (case aO => exact (kR HO_5.out)); (case aS => exact (below_size (kB HB.out))); (case aL => have := LMc16.out; omega); intro v428 w17 ho hb hg hat; rw [← Ny427.out] at ho; replace HB := As (hb); have HO429 := As (ho); clear HO_5; clear ho hb hg hat))
          repeat (go_quiet (first | ((with_reducible refine gate_builtin (b := .append) (xs := #[.tmp 41, .tmp 46]) rfl ?_); (try (refine gate_guard (by rfl) ?_; dsimp only)); at_builtin; refine Kd.R_append k33 (w0 := w) w.heap.size rfl (.tmp 41) (.tmp 46) 23 33 (.agg #[(.int .i64 0), (.int .i64 0), (.string ⟨#[]⟩)]) 32 rfl Try.underlying23 info33 rfl (by decide) (by omega) u5 x5_1 (⟨(rd_T33 l0 x6_1).f0, (rd_T33 l0 x6_1).f1, (rd_T33 l0 x6_1).f2⟩ : S33) [.int .i64 ((rd_T33 l0 x6_1).f0), .int .i64 ((rd_T33 l0 x6_1).f1), .string ((rd_T33 l0 x6_1).f2)] (fun _ => True) (fun _ => False) rfl rfl ?aP (fun _ hk => hk.elim) ?aF ?aO ?aB ?aS ?aL ?_; (case aP => exact k33_mkM _ _ _ (⟨(rd_T33 l0 x6_1).f0, (rd_T33 l0 x6_1).f1, (rd_T33 l0 x6_1).f2⟩ : S33)); (case aB => exact (kB HB.out)); (case aF => exact (fun _ _ => trivial)); (case aO => exact (kR HO_5.out)); (case aS => exact (below_size (kB HB.out))); (case aL => have := LMc16.out; omega); intro v428 w17 ho hb hg hat; rw [← Ny427.out] at ho; replace HB := As (hb); have HO429 := As (ho); clear HO_5; clear ho hb hg hat)); try go_wp2_with (first | ((with_reducible refine gate_builtin (b := .append) (xs := #[.tmp 41, .tmp 46]) rfl ?_); (try (refine gate_guard (by rfl) ?_; dsimp only)); at_builtin; refine Kd.R_append k33 (w0 := w) w.heap.size rfl (.tmp 41) (.tmp 46) 23 33 (.agg #[(.int .i64 0), (.int .i64 0), (.string ⟨#[]⟩)]) 32 rfl Try.underlying23 info33 rfl (by decide) (by omega) u5 x5_1 (⟨(rd_T33 l0 x6_1).f0, (rd_T33 l0 x6_1).f1, (rd_T33 l0 x6_1).f2⟩ : S33) [.int .i64 ((rd_T33 l0 x6_1).f0), .int .i64 ((rd_T33 l0 x6_1).f1), .string ((rd_T33 l0 x6_1).f2)] (fun _ => True) (fun _ => False) rfl rfl ?aP (fun _ hk => hk.elim) ?aF ?aO ?aB ?aS ?aL ?_; (case aP => exact k33_mkM _ _ _ (⟨(rd_T33 l0 x6_1).f0, (rd_T33 l0 x6_1).f1, (rd_T33 l0 x6_1).f2⟩ : S33)); (case aB => exact (kB HB.out)); (case aF => exact (fun _ _ => trivial)); (case aO => exact (kR HO_5.out)); (case aS => exact (below_size (kB HB.out))); (case aL => have := LMc16.out; omega); intro v428 w17 ho hb hg hat; rw [← Ny427.out] at ho; replace HB := As (hb); have HO429 := As (ho); clear HO_5; clear ho hb hg hat)))
          go_roundg kj2
          case measure => have := HK1.out; have := HJ2.out; omega
          case rel => exact ⟨(y427), (wrap64 (x6_1 + 1)), (x7_1), kS, kS, H', ⟨by have := HK1.out; have := HJ2.out; omega⟩, ⟨by (with_reducible repeat (first | apply Kd.R_alloc | apply Kd.R_drewN | apply Kd.R_drew)); exact HO429.out⟩, ⟨kB HB.out⟩⟩
         rw [if_neg c16] at H
         exact absurd H (by simp)
        rw [if_neg c15] at H
        have c15b0 : decide (((rd_T33 l0 x6_1).f0) ≤ ((rd_T33 l1 x7_1).f0)) = false := decide_eq_false c15
        clear c15
        by_cases c18 : x5_1.length < 4398046511104
        ·rw [if_pos c18] at H
         have LMc18 := As c18
         clear c18
         obtain ⟨y431, hy431⟩ : ∃ y_ : List (S33), y_ = (x5_1 ++ [(⟨(rd_T33 l1 x7_1).f0, (rd_T33 l1 x7_1).f1, (rd_T33 l1 x7_1).f2⟩ : S33)]) := ⟨_, rfl⟩
         replace H : (intrusionref09_Merge.l0 kj2 l0 l1 y431 x6_1 (wrap64 (x7_1 + 1))) = some r := by first | (rw [hy431]; with_reducible exact H) | (have H2_ := (Option.bind_some _ _).symm.trans H; rw [hy431]; with_reducible exact H2_) | (have H2_ := (Option.bind_some _ _).symm.trans H; with_reducible exact H2_) | with_reducible exact H | (rw [hy431]; exact H) | exact H
         have Ny431 := As hy431
         clear hy431
         have H' := As H
         clear H
         have p424 : 0 ≤ (x6_1 : Int) := of_decide_eq_true (by first | (with_reducible assumption) | assumption)
         have q424 : x6_1 < (l0.length : Int) := of_decide_eq_true (by first | (with_reducible assumption) | assumption)
         obtain ⟨ad424, e424, hx424_0, hx424_1, hx424_2⟩ := at_T33 HR0.out x6_1 p424 q424
         cases e424
         replace hx424_0 := hcell HB.out hx424_0
         replace hx424_1 := hcell HB.out hx424_1
         replace hx424_2 := hcell HB.out hx424_2
         replace p424 := eq_true p424
         replace q424 := eq_true q424
         have p425 : 0 ≤ (x7_1 : Int) := of_decide_eq_true (by first | (with_reducible assumption) | assumption)
         have q425 : x7_1 < (l1.length : Int) := of_decide_eq_true (by first | (with_reducible assumption) | assumption)
         obtain ⟨ad425, e425, hx425_0, hx425_1, hx425_2⟩ := at_T33 HR1.out x7_1 p425 q425
         cases e425
         replace hx425_0 := hcell HB.out hx425_0
         replace hx425_1 := hcell HB.out hx425_1
         replace hx425_2 := hcell HB.out hx425_2
         replace p425 := eq_true p425
         replace q425 := eq_true q425
         have p430 : 0 ≤ (x7_1 : Int) := of_decide_eq_true (by first | (with_reducible assumption) | assumption)
         have q430 : x7_1 < (l1.length : Int) := of_decide_eq_true (by first | (with_reducible assumption) | assumption)
         obtain ⟨ad430, e430, hx430_0, hx430_1, hx430_2⟩ := at_T33 HR1.out x7_1 p430 q430
         obtain rfl : ad425 = ad430 := (by injection e430)
         replace hx430_0 := hcell HB.out hx430_0
         replace hx430_1 := hcell HB.out hx430_1
         replace hx430_2 := hcell HB.out hx430_2
         replace p430 := eq_true p430
         replace q430 := eq_true q430
         go_wp2_with (first | ((with_reducible refine gate_builtin (b := .append) (xs := #[.tmp 50, .tmp 55]) rfl ?_); (try (refine gate_guard (by rfl) ?_; dsimp only)); at_builtin; refine Kd.R_append k33 (w0 := w) w.heap.size rfl (.tmp 50) (.tmp 55) 23 33 (.agg #[(.int .i64 0), (.int .i64 0), (.string ⟨#[]⟩)]) 32 rfl Try.underlying23 info33 rfl (by decide) (by omega) u5 x5_1 (⟨(rd_T33 l1 x7_1).f0, (rd_T33 l1 x7_1).f1, (rd_T33 l1 x7_1).f2⟩ : S33) [.int .i64 ((rd_T33 l1 x7_1).f0), .int .i64 ((rd_T33 l1 x7_1).f1), .string ((rd_T33 l1 x7_1).f2)] (fun _ => True) (fun _ => False) rfl rfl ?aP (fun _ hk => hk.elim) ?aF ?aO ?aB ?aS ?aL ?_; (case aP => exact k33_mkM _ _ _ (⟨(rd_T33 l1 x7_1).f0, (rd_T33 l1 x7_1).f1, (rd_T33 l1 x7_1).f2⟩ : S33)); (case aB => exact (kB HB.out)); (case aF => exact (fun _ _ => trivial)); (case aO => exact (kR HO_5.out)); (case aS => exact (below_size (kB HB.out))); (case aL => have := LMc18.out; omega); intro v432 w19 ho hb hg hat; rw [← Ny431.out] at ho; replace HB := As (hb); have HO433 := As (ho); clear HO_5; clear ho hb hg hat))
         repeat (go_quiet (first | ((with_reducible refine gate_builtin (b := .append) (xs := #[.tmp 50, .tmp 55]) rfl ?_); (try (refine gate_guard (by rfl) ?_; dsimp only)); at_builtin; refine Kd.R_append k33 (w0 := w) w.heap.size rfl (.tmp 50) (.tmp 55) 23 33 (.agg #[(.int .i64 0), (.int .i64 0), (.string ⟨#[]⟩)]) 32 rfl Try.underlying23 info33 rfl (by decide) (by omega) u5 x5_1 (⟨(rd_T33 l1 x7_1).f0, (rd_T33 l1 x7_1).f1, (rd_T33 l1 x7_1).f2⟩ : S33) [.int .i64 ((rd_T33 l1 x7_1).f0), .int .i64 ((rd_T33 l1 x7_1).f1), .string ((rd_T33 l1 x7_1).f2)] (fun _ => True) (fun _ => False) rfl rfl ?aP (fun _ hk => hk.elim) ?aF ?aO ?aB ?aS ?aL ?_; (case aP => exact k33_mkM _ _ _ (⟨(rd_T33 l1 x7_1).f0, (rd_T33 l1 x7_1).f1, (rd_T33 l1 x7_1).f2⟩ : S33)); (case aB => exact (kB HB.out)); (case aF => exact (fun _ _ => trivial)); (case aO => exact (kR HO_5.out)); (case aS => exact (below_size (kB HB.out))); (case aL => have := LMc18.out; omega); intro v432 w19 ho hb hg hat; rw [← Ny431.out] at ho; replace HB := As (hb); have HO433 := As (ho); clear HO_5; clear ho hb hg hat)); try go_wp2_with (first | ((with_reducible refine gate_builtin (b := .append) (xs := #[.tmp 50, .tmp 55]) rfl ?_); (try (refine gate_guard (by rfl) ?_; dsimp only)); at_builtin; refine Kd.R_append k33 (w0 := w) w.heap.size rfl (.tmp 50) (.tmp 55) 23 33 (.agg #[(.int .i64 0), (.int .i64 0), (.string ⟨#[]⟩)]) 32 rfl Try.underlying23 info33 rfl (by decide) (by omega) u5 x5_1 (⟨(rd_T33 l1 x7_1).f0, (rd_T33 l1 x7_1).f1, (rd_T33 l1 x7_1).f2⟩ : S33) [.int .i64 ((rd_T33 l1 x7_1).f0), .int .i64 ((rd_T33 l1 x7_1).f1), .string ((rd_T33 l1 x7_1).f2)] (fun _ => True) (fun _ => False) rfl rfl ?aP (fun _ hk => hk.elim) ?aF ?aO ?aB ?aS ?aL ?_; (case aP => exact k33_mkM _ _ _ (⟨(rd_T33 l1 x7_1).f0, (rd_T33 l1 x7_1).f1, (rd_T33 l1 x7_1).f2⟩ : S33)); (case aB => exact (kB HB.out)); (case aF => exact (fun _ _ => trivial)); (case aO => exact (kR HO_5.out)); (case aS => exact (below_size (kB HB.out))); (case aL => have := LMc18.out; omega); intro v432 w19 ho hb hg hat; rw [← Ny431.out] at ho; replace HB := As (hb); have HO433 := As (ho); clear HO_5; clear ho hb hg hat)))
         go_roundg kj2
         case measure => have := HK1.out; have := HJ2.out; omega
         case rel => exact ⟨(y431), (x6_1), (wrap64 (x7_1 + 1)), kS, kS, H', ⟨by have := HK1.out; have := HJ2.out; omega⟩, ⟨by (with_reducible repeat (first | apply Kd.R_alloc | apply Kd.R_drewN | apply Kd.R_drew)); exact HO433.out⟩, ⟨kB HB.out⟩⟩
        rw [if_neg c18] at H
        exact absurd H (by simp)
       rw [if_neg c14] at H
       exact absurd H (by simp)
      rw [if_neg c13] at H
      exact absurd H (by simp)
     rw [if_neg c12] at H
     exact absurd H (by simp)
    rw [if_neg c11] at H
    have c11b0 : decide (x6_1 < (l0.length : Int)) = false := decide_eq_false c11
    clear c11
    by_cases c20 : 0 ≤ x7_1
    ·rw [if_pos c20] at H
     have c20b0 : decide (0 ≤ x7_1) = true := decide_eq_true c20
     clear c20
     by_cases c21 : x7_1 < (l1.length : Int)
     ·rw [if_pos c21] at H
      have c21b0 : decide (x7_1 < (l1.length : Int)) = true := decide_eq_true c21
      clear c21
      by_cases c22 : x5_1.length < 4398046511104
      ·rw [if_pos c22] at H
       have LMc22 := As c22
       clear c22
       obtain ⟨y435, hy435⟩ : ∃ y_ : List (S33), y_ = (x5_1 ++ [(⟨(rd_T33 l1 x7_1).f0, (rd_T33 l1 x7_1).f1, (rd_T33 l1 x7_1).f2⟩ : S33)]) := ⟨_, rfl⟩
       replace H : (intrusionref09_Merge.l0 kj2 l0 l1 y435 x6_1 (wrap64 (x7_1 + 1))) = some r := by first | (rw [hy435]; with_reducible exact H) | (have H2_ := (Option.bind_some _ _).symm.trans H; rw [hy435]; with_reducible exact H2_) | (have H2_ := (Option.bind_some _ _).symm.trans H; with_reducible exact H2_) | with_reducible exact H | (rw [hy435]; exact H) | exact H
       have Ny435 := As hy435
       clear hy435
       have H' := As H
       clear H
       have p434 : 0 ≤ (x7_1 : Int) := of_decide_eq_true (by first | (with_reducible assumption) | assumption)
       have q434 : x7_1 < (l1.length : Int) := of_decide_eq_true (by first | (with_reducible assumption) | assumption)
       obtain ⟨ad434, e434, hx434_0, hx434_1, hx434_2⟩ := at_T33 HR1.out x7_1 p434 q434
       cases e434
       replace hx434_0 := hcell HB.out hx434_0
       replace hx434_1 := hcell HB.out hx434_1
       replace hx434_2 := hcell HB.out hx434_2
       replace p434 := eq_true p434
       replace q434 := eq_true q434
       go_wp2_with (first | ((with_reducible refine gate_builtin (b := .append) (xs := #[.tmp 50, .tmp 55]) rfl ?_); (try (refine gate_guard (by rfl) ?_; dsimp only)); at_builtin; refine Kd.R_append k33 (w0 := w) w.heap.size rfl (.tmp 50) (.tmp 55) 23 33 (.agg #[(.int .i64 0), (.int .i64 0), (.string ⟨#[]⟩)]) 32 rfl Try.underlying23 info33 rfl (by decide) (by omega) u5 x5_1 (⟨(rd_T33 l1 x7_1).f0, (rd_T33 l1 x7_1).f1, (rd_T33 l1 x7_1).f2⟩ : S33) [.int .i64 ((rd_T33 l1 x7_1).f0), .int .i64 ((rd_T33 l1 x7_1).f1), .string ((rd_T33 l1 x7_1).f2)] (fun _ => True) (fun _ => False) rfl rfl ?aP (fun _ hk => hk.elim) ?aF ?aO ?aB ?aS ?aL ?_; (case aP => exact k33_mkM _ _ _ (⟨(rd_T33 l1 x7_1).f0, (rd_T33 l1 x7_1).f1, (rd_T33 l1 x7_1).f2⟩ : S33)); (case aB => exact (kB HB.out)); (case aF => exact (fun _ _ => trivial)); (case aO => exact (kR HO_5.out)); (case aS => exact (below_size (kB HB.out))); (case aL => have := LMc22.out; omega); intro v436 w23 ho hb hg hat; rw [← Ny435.out] at ho; replace HB := As (hb); have HO437 := As (ho); clear HO_5; clear ho hb hg hat))
       repeat (go_quiet (first | ((with_reducible refine gate_builtin (b := .append) (xs := #[.tmp 50, .tmp 55]) rfl ?_); (try (refine gate_guard (by rfl) ?_; dsimp only)); at_builtin; refine Kd.R_append k33 (w0 := w) w.heap.size rfl (.tmp 50) (.tmp 55) 23 33 (.agg #[(.int .i64 0), (.int .i64 0), (.string ⟨#[]⟩)]) 32 rfl Try.underlying23 info33 rfl (by decide) (by omega) u5 x5_1 (⟨(rd_T33 l1 x7_1).f0, (rd_T33 l1 x7_1).f1, (rd_T33 l1 x7_1).f2⟩ : S33) [.int .i64 ((rd_T33 l1 x7_1).f0), .int .i64 ((rd_T33 l1 x7_1).f1), .string ((rd_T33 l1 x7_1).f2)] (fun _ => True) (fun _ => False) rfl rfl ?aP (fun _ hk => hk.elim) ?aF ?aO ?aB ?aS ?aL ?_; (case aP => exact k33_mkM _ _ _ (⟨(rd_T33 l1 x7_1).f0, (rd_T33 l1 x7_1).f1, (rd_T33 l1 x7_1).f2⟩ : S33)); (case aB => exact (kB HB.out)); (case aF => exact (fun _ _ => trivial)); (case aO => exact (kR HO_5.out)); (case aS => exact (below_size (kB HB.out))); (case aL => have := LMc22.out; omega); intro v436 w23 ho hb hg hat; rw [← Ny435.out] at ho; replace HB := As (hb); have HO437 := As (ho); clear HO_5; clear ho hb hg hat)); try go_wp2_with (first | ((with_reducible refine gate_builtin (b := .append) (xs := #[.tmp 50, .tmp 55]) rfl ?_); (try (refine gate_guard (by rfl) ?_; dsimp only)); at_builtin; refine Kd.R_append k33 (w0 := w) w.heap.size rfl (.tmp 50) (.tmp 55) 23 33 (.agg #[(.int .i64 0), (.int .i64 0), (.string ⟨#[]⟩)]) 32 rfl Try.underlying23 info33 rfl (by decide) (by omega) u5 x5_1 (⟨(rd_T33 l1 x7_1).f0, (rd_T33 l1 x7_1).f1, (rd_T33 l1 x7_1).f2⟩ : S33) [.int .i64 ((rd_T33 l1 x7_1).f0), .int .i64 ((rd_T33 l1 x7_1).f1), .string ((rd_T33 l1 x7_1).f2)] (fun _ => True) (fun _ => False) rfl rfl ?aP (fun _ hk => hk.elim) ?aF ?aO ?aB ?aS ?aL ?_; (case aP => exact k33_mkM _ _ _ (⟨(rd_T33 l1 x7_1).f0, (rd_T33 l1 x7_1).f1, (rd_T33 l1 x7_1).f2⟩ : S33)); (case aB => exact (kB HB.out)); (case aF => exact (fun _ _ => trivial)); (case aO => exact (kR HO_5.out)); (case aS => exact (below_size (kB HB.out))); (case aL => have := LMc22.out; omega); intro v436 w23 ho hb hg hat; rw [← Ny435.out] at ho; replace HB := As (hb); have HO437 := As (ho); clear HO_5; clear ho hb hg hat)))
       go_roundg kj2
       case measure => have := HK1.out; have := HJ2.out; omega
       case rel => exact ⟨(y435), (x6_1), (wrap64 (x7_1 + 1)), kS, kS, H', ⟨by have := HK1.out; have := HJ2.out; omega⟩, ⟨by (with_reducible repeat (first | apply Kd.R_alloc | apply Kd.R_drewN | apply Kd.R_drew)); exact HO437.out⟩, ⟨kB HB.out⟩⟩
      rw [if_neg c22] at H
      exact absurd H (by simp)
     rw [if_neg c21] at H
     exact absurd H (by simp)
    rw [if_neg c20] at H
    exact absurd H (by simp)
   replace c5 := Bool.eq_false_iff.mpr c5
   subst c5
   have H1 : (some x5_1) = some r := by rw [if_neg (show ¬ (false = true) by decide)] at H; exact H
   clear H
   have H := H1
   clear H1
   obtain rfl := Option.some.inj H
   go_wp2
   repeat (go_quiet (fail); try go_wp2)
   go_ret
   exact ⟨_, kE, by (with_reducible repeat (first | apply Kd.R_alloc | apply Kd.R_drewN | apply Kd.R_drew)); exact HO_5.out, by exact kB HB.out⟩

/-! ### intrusionlaw09_CaptureMerges: function 6 -/
def intrusionlaw09_CaptureMerges.j0 : Nat → List (S33) → List (S33) → Bool → Option (Bool)
 | 0, _, _, _ => none
 | k + 1, x0, x1, x10 => if x10 = true then ((intrusionlaw09_lives.f k).bind fun t440 => (some t440)) else ((capture_Merge.f k x0 x1).bind fun t441 => ((intrusionref09_Merge.f k x0 x1).bind fun t444 => ((intrusionref09_Same.f k t441 t444).bind fun t447 => (if t447 = true then ((intrusionlaw09_lives.f k).bind fun t448 => (some t448)) else (none)))))
def intrusionlaw09_CaptureMerges.f (k : Nat) (l0 : List (S33)) (l1 : List (S33)) : Option (Bool) := (intrusionref09_Long.f k l0).bind fun t438 => (if t438 = true then (intrusionlaw09_CaptureMerges.j0 k l0 l1 true) else ((intrusionref09_Long.f k l1).bind fun t439 => (intrusionlaw09_CaptureMerges.j0 k l0 l1 t439)))
theorem intrusionlaw09_CaptureMerges.mono_l : ∀ k, (∀ y0 y1 y2, LeO (intrusionlaw09_CaptureMerges.j0 k y0 y1 y2) (intrusionlaw09_CaptureMerges.j0 (k + 1) y0 y1 y2))
 | 0 => fun _ _ _ r h => by simp [intrusionlaw09_CaptureMerges.j0] at h
 | k + 1 => by
  have ih0 := intrusionlaw09_CaptureMerges.mono_l k
  intro y0 y1 y2
  unfold intrusionlaw09_CaptureMerges.j0
  repeat' first | with_reducible first | apply ih0 | apply capture_Merge.mono | apply intrusionlaw09_lives.mono | apply intrusionref09_Long.mono | apply intrusionref09_Merge.mono | apply intrusionref09_Same.mono | apply LeO.refl | apply LeO.none | refine LeO.ite ?_ ?_ | refine LeO.bind ?_ (fun _ => ?_)
theorem intrusionlaw09_CaptureMerges.mono : ∀ a0 a1 k, LeO (intrusionlaw09_CaptureMerges.f k a0 a1) (intrusionlaw09_CaptureMerges.f (k + 1) a0 a1) := by
 intro a0 a1 k
 have ih0 := intrusionlaw09_CaptureMerges.mono_l k
 unfold intrusionlaw09_CaptureMerges.f
 repeat' first | with_reducible first | apply ih0 | apply capture_Merge.mono | apply intrusionlaw09_lives.mono | apply intrusionref09_Long.mono | apply intrusionref09_Merge.mono | apply intrusionref09_Same.mono | apply LeO.refl | apply LeO.none | refine LeO.ite ?_ ?_ | refine LeO.bind ?_ (fun _ => ?_)
set_option maxHeartbeats 8000000 in
set_option maxRecDepth 100000 in
theorem intrusionlaw09_CaptureMerges.calls (k : Nat) (A0 : Option Addr) (c0 : Nat) (l0 : List (S33)) (A1 : Option Addr) (c1 : Nat) (l1 : List (S33)) (r : Bool) (w : World) (hr0 : Kd.C k33 w A0 l0.length l0) (hc0 : l0.length ≤ c0) (hr1 : Kd.C k33 w A1 l1.length l1) (hc1 : l1.length ≤ c1) (h : intrusionlaw09_CaptureMerges.f k l0 l1 = some r) :
  Calls Try.prog 6 #[.slice A0 l0.length c0, .slice A1 l1.length c1] w fun e w' => e = .returned (.bool r) ∧ Below w.heap.size w w' := by
 have HR0 := As hr0
 have HC0 := As hc0
 clear hr0 hc0
 have HR1 := As hr1
 have HC1 := As hc1
 clear hr1 hc1
 have HB := As (Below.refl w.heap.size w)
 have H : ((intrusionref09_Long.f k l0).bind fun t438 => (if t438 = true then (intrusionlaw09_CaptureMerges.j0 k l0 l1 true) else ((intrusionref09_Long.f k l1).bind fun t439 => (intrusionlaw09_CaptureMerges.j0 k l0 l1 t439)))) = some r := h
 clear h
 have HC3 := As H
 clear H
 go_enter Try.func6, Try.ntmps6
 go_upto_region 1 with (fail)
 go_cut [10] (fun v10 wc => ∃ (kq : Nat) (x10_2 : Bool), v10 = .bool x10_2 ∧ Aside0 (intrusionlaw09_CaptureMerges.j0 kq l0 l1 x10_2 = some r) ∧ Aside0 (kq ≤ k) ∧ Aside0 (Below w.heap.size w wc))
 case first =>
  have H := HC3.out
  clear HC3
  replace H := Option.bind_eq_some_iff.mp H
  obtain ⟨t438, A40, H⟩ := H
  replace H : (if t438 = true then (intrusionlaw09_CaptureMerges.j0 k l0 l1 true) else ((intrusionref09_Long.f k l1).bind fun t439 => (intrusionlaw09_CaptureMerges.j0 k l0 l1 t439))) = some r := H
  have A4 := As A40
  clear A40
  by_cases c5 : t438 = true
  ·subst c5
   have H1 : (intrusionlaw09_CaptureMerges.j0 k l0 l1 true) = some r := by rw [if_pos rfl] at H; exact H
   clear H
   have H := H1
   clear H1
   have H' := As H
   clear H
   go_wp2_with (first | ((with_reducible refine gate_callee (f := 15) rfl ?_); refine goesL_ (some 6) rfl rfl Try.func15 (by kernel_rfl) rfl #[.slice A0 l0.length c0] rfl kA ?_; (with_reducible refine (intrusionref09_Long.calls k _ _ l0 true _ ?side1 ?side2 A4.out).mono ?_); (case side1 => repeat (first | exact (Kd.C_below HR0.out HB.out) | (with_reducible refine Kd.C_alloc ?_ _) | (with_reducible refine Kd.C_drewN ?_ _) | (with_reducible refine Kd.C_drew ?_))); (case side2 => exact HC0.out); rintro e w' ⟨rfl, ⟨nd, rfl⟩⟩; refine ⟨_, rfl, ?_⟩))
   go_meet
   case rel => exact ⟨_, (true), kS, H', ⟨by first | omega | exact Nat.le_refl _⟩, ⟨kB HB.out⟩⟩
  replace c5 := Bool.eq_false_iff.mpr c5
  subst c5
  have H1 : ((intrusionref09_Long.f k l1).bind fun t439 => (intrusionlaw09_CaptureMerges.j0 k l0 l1 t439)) = some r := by rw [if_neg (show ¬ (false = true) by decide)] at H; exact H
  clear H
  have H := H1
  clear H1
  replace H := Option.bind_eq_some_iff.mp H
  obtain ⟨t439, A60, H⟩ := H
  replace H : (intrusionlaw09_CaptureMerges.j0 k l0 l1 t439) = some r := H
  have A6 := As A60
  clear A60
  have H' := As H
  clear H
  go_wp2_with (first | ((with_reducible refine gate_callee (f := 15) rfl ?_); refine goesL_ (some 6) rfl rfl Try.func15 (by kernel_rfl) rfl #[.slice A0 l0.length c0] rfl kA ?_; (with_reducible refine (intrusionref09_Long.calls k _ _ l0 false _ ?side1 ?side2 A4.out).mono ?_); (case side1 => repeat (first | exact (Kd.C_below HR0.out HB.out) | (with_reducible refine Kd.C_alloc ?_ _) | (with_reducible refine Kd.C_drewN ?_ _) | (with_reducible refine Kd.C_drew ?_))); (case side2 => exact HC0.out); rintro e w' ⟨rfl, ⟨nd, rfl⟩⟩; refine ⟨_, rfl, ?_⟩) | (go_at_call 15; (with_reducible refine (intrusionref09_Long.calls k _ _ l1 t439 _ ?side1 ?side2 A6.out).mono ?_); (case side1 => repeat (first | exact (Kd.C_below HR1.out (kB HB.out)) | (with_reducible refine Kd.C_alloc ?_ _) | (with_reducible refine Kd.C_drewN ?_ _) | (with_reducible refine Kd.C_drew ?_))); (case side2 => exact HC1.out); rintro e w' ⟨rfl, ⟨nd, rfl⟩⟩))
  go_meet
  case rel => exact ⟨_, (t439), kS, H', ⟨by first | omega | exact Nat.le_refl _⟩, ⟨kB HB.out⟩⟩
 clear HC3
 try clear c1
 obtain ⟨kq, x10_2, rfl, HA, HJ2, HB⟩ := hcut
 cases kq with
 | zero => exact absurd HA.out (by simp [intrusionlaw09_CaptureMerges.j0])
 | succ kj2 =>
  have H := HA.out
  clear HA
  simp only [intrusionlaw09_CaptureMerges.j0] at H
  by_cases c7 : x10_2 = true
  ·subst c7
   have H1 : ((intrusionlaw09_lives.f kj2).bind fun t440 => (some t440)) = some r := by rw [if_pos rfl] at H; exact H
   clear H
   have H := H1
   clear H1
   replace H := Option.bind_eq_some_iff.mp H
   obtain ⟨t440, A80, H⟩ := H
   replace H : (some t440) = some r := H
   have A8 := As A80
   clear A80
   obtain rfl := Option.some.inj H
   go_wp2_with (first | ((with_reducible refine gate_callee (f := 11) rfl ?_); refine goesL_ (some 11) rfl rfl Try.func11 (by kernel_rfl) rfl #[] rfl kA ?_; (with_reducible refine (intrusionlaw09_lives.calls kj2  t440 _ A8.out).mono ?_); rintro e w9 ⟨rfl, hb⟩; refine ⟨_, rfl, ?_⟩; replace HB := As (below_step (kB HB.out) hb); (try clear hb)))
   go_ret
   exact ⟨kE, by exact kB HB.out⟩
  replace c7 := Bool.eq_false_iff.mpr c7
  subst c7
  have H1 : ((capture_Merge.f kj2 l0 l1).bind fun t441 => ((intrusionref09_Merge.f kj2 l0 l1).bind fun t444 => ((intrusionref09_Same.f kj2 t441 t444).bind fun t447 => (if t447 = true then ((intrusionlaw09_lives.f kj2).bind fun t448 => (some t448)) else (none))))) = some r := by rw [if_neg (show ¬ (false = true) by decide)] at H; exact H
  clear H
  have H := H1
  clear H1
  replace H := Option.bind_eq_some_iff.mp H
  obtain ⟨t441, A100, H⟩ := H
  replace H : ((intrusionref09_Merge.f kj2 l0 l1).bind fun t444 => ((intrusionref09_Same.f kj2 t441 t444).bind fun t447 => (if t447 = true then ((intrusionlaw09_lives.f kj2).bind fun t448 => (some t448)) else (none)))) = some r := H
  have A10 := As A100
  clear A100
  replace H := Option.bind_eq_some_iff.mp H
  obtain ⟨t444, A110, H⟩ := H
  replace H : ((intrusionref09_Same.f kj2 t441 t444).bind fun t447 => (if t447 = true then ((intrusionlaw09_lives.f kj2).bind fun t448 => (some t448)) else (none))) = some r := H
  have A11 := As A110
  clear A110
  replace H := Option.bind_eq_some_iff.mp H
  obtain ⟨t447, A120, H⟩ := H
  replace H : (if t447 = true then ((intrusionlaw09_lives.f kj2).bind fun t448 => (some t448)) else (none)) = some r := H
  have A12 := As A120
  clear A120
  by_cases c13 : t447 = true
  ·subst c13
   have H1 : ((intrusionlaw09_lives.f kj2).bind fun t448 => (some t448)) = some r := by rw [if_pos rfl] at H; exact H
   clear H
   have H := H1
   clear H1
   replace H := Option.bind_eq_some_iff.mp H
   obtain ⟨t448, A140, H⟩ := H
   replace H : (some t448) = some r := H
   have A14 := As A140
   clear A140
   obtain rfl := Option.some.inj H
   go_wp2_with (first | ((with_reducible refine gate_callee (f := 18) rfl ?_); refine goesL_ (some 14) rfl rfl Try.func18 (by kernel_rfl) rfl #[.slice A0 l0.length c0, .slice A1 l1.length c1] rfl kA ?_; (with_reducible refine (capture_Merge.calls kj2 _ _ l0 _ _ l1 t441 _ ?side1 ?side2 ?side3 ?side4 A10.out).mono ?_); (case side1 => repeat (first | exact (Kd.C_below HR0.out HB.out) | (with_reducible refine Kd.C_alloc ?_ _) | (with_reducible refine Kd.C_drewN ?_ _) | (with_reducible refine Kd.C_drew ?_))); (case side2 => exact HC0.out); (case side3 => repeat (first | exact (Kd.C_below HR1.out HB.out) | (with_reducible refine Kd.C_alloc ?_ _) | (with_reducible refine Kd.C_drewN ?_ _) | (with_reducible refine Kd.C_drew ?_))); (case side4 => exact HC1.out); rintro e w15 ⟨v442, rfl, ho0, hb⟩; refine ⟨_, rfl, ?_⟩; have HO443 := As (Kd.R_lower ho0 (below_size (kB HB.out))); replace HB := As (below_step (kB HB.out) hb); (try clear hb); (try clear ho0)) | ((with_reducible refine gate_callee (f := 19) rfl ?_); refine goesL_ (some 17) rfl rfl Try.func19 (by kernel_rfl) rfl #[.slice A0 l0.length c0, .slice A1 l1.length c1] rfl kA ?_; (with_reducible refine (intrusionref09_Merge.calls kj2 _ _ l0 _ _ l1 t444 _ ?side1 ?side2 ?side3 ?side4 A11.out).mono ?_); (case side1 => repeat (first | exact (Kd.C_below HR0.out HB.out) | (with_reducible refine Kd.C_alloc ?_ _) | (with_reducible refine Kd.C_drewN ?_ _) | (with_reducible refine Kd.C_drew ?_))); (case side2 => exact HC0.out); (case side3 => repeat (first | exact (Kd.C_below HR1.out HB.out) | (with_reducible refine Kd.C_alloc ?_ _) | (with_reducible refine Kd.C_drewN ?_ _) | (with_reducible refine Kd.C_drew ?_))); (case side4 => exact HC1.out); rintro e w16 ⟨v445, rfl, ho0, hb⟩; refine ⟨_, rfl, ?_⟩; have HO446 := As (Kd.R_lower (Kd.R_new' ho0 (Kd.R_lt (kR HO443.out))) (below_size (kB HB.out))); replace HO443 := As (Kd.R_elder' (kR HO443.out) (Kd.R_base ho0) hb); replace HB := As (below_step (kB HB.out) hb); (try clear hb); (try clear ho0); obtain ⟨Ao17, co17, eo17⟩ := Kd.R_slice HO443.out; subst eo17; obtain ⟨Ao18, co18, eo18⟩ := Kd.R_slice HO446.out; subst eo18) | ((with_reducible refine gate_callee (f := 14) rfl ?_); refine goesL_ (some 18) rfl rfl Try.func14 (by kernel_rfl) rfl #[.slice Ao17 t441.length co17, .slice Ao18 t444.length co18] rfl kA ?_; (with_reducible refine (intrusionref09_Same.calls kj2 _ _ t441 _ _ t444 true _ ?side1 ?side2 ?side3 ?side4 A12.out).mono ?_); (case side1 => repeat (first | exact (Kd.R_reads' HO443.out).2.2 | (with_reducible refine Kd.C_alloc ?_ _) | (with_reducible refine Kd.C_drewN ?_ _) | (with_reducible refine Kd.C_drew ?_))); (case side2 => exact (Kd.R_reads' HO443.out).2.1); (case side3 => repeat (first | exact (Kd.R_reads' HO446.out).2.2 | (with_reducible refine Kd.C_alloc ?_ _) | (with_reducible refine Kd.C_drewN ?_ _) | (with_reducible refine Kd.C_drew ?_))); (case side4 => exact (Kd.R_reads' HO446.out).2.1); rintro e w' ⟨rfl, ⟨nd, rfl⟩⟩; refine ⟨_, rfl, ?_⟩) | (go_at_call 11; (with_reducible refine (intrusionlaw09_lives.calls kj2  t448 _ A14.out).mono ?_); rintro e w19 ⟨rfl, hb⟩; replace HO443 := As (Kd.R_below (kR HO443.out) hb); replace HO446 := As (Kd.R_below (kR HO446.out) hb); replace HB := As (below_step (kB HB.out) hb); (try clear hb)))
   go_ret
   exact ⟨kE, by exact kB HB.out⟩
  replace c13 := Bool.eq_false_iff.mpr c13
  subst c13
  have H1 : (none) = some r := by rw [if_neg (show ¬ (false = true) by decide)] at H; exact H
  clear H
  have H := H1
  clear H1
  exact absurd H (by simp)

end Go.Proofs.Ytafjmciojeondaa.X
-- short
