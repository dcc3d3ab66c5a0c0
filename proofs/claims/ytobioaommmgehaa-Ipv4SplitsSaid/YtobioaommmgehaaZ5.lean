/- Functions and their walks, printed by xprint.py. -/
import Derived.Test.YtobioaommmgehaaZ0
namespace Go.Proofs.Ytobioaommmgehaa.Z
open Go.RowKit Go.Proofs.YtobioaommmgehaaW.PrintWords Go.Proofs.YtobioaommmgehaaW.PrintLast Go.Proofs.YtobioaommmgehaaW.PrintMore
attribute [local go_sem] max2_int min2_int max_two min_two max_three min_three max_four min_four   -- for this text's walks alone
set_option linter.unusedVariables false
set_option linter.unusedSimpArgs false

/-! ### ipv4_options: function 29 -/
def ipv4_options.l0 : Nat → List Int → List (S50) → Int → Option ((List (S50)) × Bool)
 | 0, _, _, _ => none
 | k + 1, x4, x5, x6 => if x6 < (x4.length : Int) then (if 0 ≤ x6 then (if (rd x4 x6) = 0 then (some (x5, true)) else (if (rd x4 x6) = 1 then (ipv4_options.l0 k x4 x5 (wrap64 (x6 + 1))) else (if (wrap64 (x6 + 1)) = (x4.length : Int) then (some (([] : List (S50)), false)) else (if 0 ≤ (wrap64 (x6 + 1)) then (if (wrap64 (x6 + 1)) < (x4.length : Int) then (if (wrap64 (x6 + (wrap64 (rd x4 (wrap64 (x6 + 1)))))) < (wrap64 (x6 + 2)) then (some (([] : List (S50)), false)) else (if (wrap64 (x6 + (wrap64 (rd x4 (wrap64 (x6 + 1)))))) > (x4.length : Int) then (some (([] : List (S50)), false)) else (if 0 ≤ (wrap64 (x6 + 2)) then (if (wrap64 (x6 + 2)) ≤ (wrap64 (x6 + (wrap64 (rd x4 (wrap64 (x6 + 1)))))) then (if (wrap64 (x6 + (wrap64 (rd x4 (wrap64 (x6 + 1)))))) ≤ (x4.length : Int) then (if x5.length < 5864062014805 then (ipv4_options.l0 k x4 (x5 ++ [(⟨wrap64 (rd x4 x6), strOfNums ((x4.take ((wrap64 (x6 + (wrap64 (rd x4 (wrap64 (x6 + 1)))))) : Int).toNat).drop ((wrap64 (x6 + 2)) : Int).toNat)⟩ : S50)]) (wrap64 (x6 + (wrap64 (rd x4 (wrap64 (x6 + 1))))))) else (none)) else (none)) else (none)) else (none)))) else (none)) else (none))))) else (none)) else (some (x5, true))
def ipv4_options.f (k : Nat) (a0 : ByteArray) : Option ((List (S50)) × Bool) := if a0.size ≤ 9223372036854775807 then (ipv4_options.l0 k (bytesOf a0) ([] : List (S50)) 0) else (none)
theorem ipv4_options.mono_l : ∀ k, (∀ y0 y1 y2, LeO (ipv4_options.l0 k y0 y1 y2) (ipv4_options.l0 (k + 1) y0 y1 y2))
 | 0 => fun _ _ _ r h => by simp [ipv4_options.l0] at h
 | k + 1 => by
  have ih0 := ipv4_options.mono_l k
  intro y0 y1 y2
  unfold ipv4_options.l0
  repeat' first | with_reducible first | apply ih0 | apply LeO.refl | apply LeO.none | refine LeO.ite ?_ ?_ | refine LeO.bind ?_ (fun _ => ?_)
theorem ipv4_options.mono : ∀ a0 k, LeO (ipv4_options.f k a0) (ipv4_options.f (k + 1) a0) := by
 intro a0 k
 have ih0 := ipv4_options.mono_l k
 unfold ipv4_options.f
 repeat' first | with_reducible first | apply ih0 | apply LeO.refl | apply LeO.none | refine LeO.ite ?_ ?_ | refine LeO.bind ?_ (fun _ => ?_)
def ipv4_options.T14 : Bool × List (List Nat × List Nat) := (true, [([], []), ([], []), ([], []), ([1, 2], [1, 2]), ([3], [3]), ([4], [4]), ([], []), ([], []), ([7], [7]), ([], []), ([], []), ([6, 8, 9, 10], [6, 8, 9, 10]), ([11], [11]), ([5, 12], [5, 12]), ([13], [13]), ([0, 14], [0, 14]), ([15, 15, 0, 1, 2, 3, 4, 5, 6, 7, 8, 9, 10, 11, 12, 13, 14, 15], [0, 15])])
def ipv4_options.B14 : List Nat := [0, 0, 0, 6, 14, 30, 0, 0, 128, 0, 0, 1984, 4032, 8190, 16382, 32767, 65535]
theorem ipv4_options.tab14 : rtab .any (opsOf Try.f29 14) = ipv4_options.T14 := by kernel_rfl
theorem ipv4_options.bits14 : waitsOk ipv4_options.T14.2 ipv4_options.B14 = true := by kernel_rfl
set_option maxHeartbeats 8000000 in
set_option maxRecDepth 100000 in
theorem ipv4_options.calls (k : Nat) (a0 : ByteArray) (r1 : List (S50)) (r2 : Bool) (w : World) (h : ipv4_options.f k a0 = some (r1, r2)) :
  Calls Try.prog 29 #[.string a0] w fun e w' => ∃ v0_ : Value, e = .returned (.tuple #[v0_, .bool r2]) ∧ Kd.R k50 50 w' w.heap.size (fun _ => True) v0_ r1 ∧ Below w.heap.size w w' := by
 have hu50 := Try.underlying50
 have HB := As (Below.refl w.heap.size w)
 have H : (if a0.size ≤ 9223372036854775807 then (ipv4_options.l0 k (bytesOf a0) ([] : List (S50)) 0) else (none)) = some (r1, r2) := h
 clear h
 replace H := iS H
 obtain ⟨c2, H⟩ := H
 have c2b0 := eq_true c2
 have c2b1 := decide_eq_true c2
 try have c2b2 := eq_false (Nat.not_lt.2 c2)
 clear c2
 obtain ⟨y122, hy122⟩ : ∃ y_ : List Int, y_ = (bytesOf a0) := ⟨_, rfl⟩
 replace H : (ipv4_options.l0 k y122 ([] : List (S50)) 0) = some (r1, r2) := by first | (rw [hy122]; with_reducible exact H) | (have H2_ := (Option.bind_some _ _).symm.trans H; rw [hy122]; with_reducible exact H2_) | (have H2_ := (Option.bind_some _ _).symm.trans H; with_reducible exact H2_) | with_reducible exact H | (rw [hy122]; exact H) | exact H
 have Ny122 := As hy122
 clear hy122
 have H' := As H
 clear H
 go_enter Try.func29, Try.ntmps29
 (try go_wp2_with (first | ((with_reducible refine gate_dst (N := 9) rfl ?_); (try (refine gate_guard (by rfl) ?_; dsimp only)); refine conv_event (e := 5) rfl (N := 9) rfl 9 46 _ rfl Try.underlying9 Try.underlying46 Try.underlying5 a0 rfl (of_decide_eq_true (by first | (with_reducible assumption) | assumption)) ?_; intro v123 w3 ho4 hb hg_ hnew_; clear hg_ hnew_; (first | rw [← Ny122.out] at ho4 | (simp only [Int.reduceToNat] at ho4; rw [← Ny122.out] at ho4)); have HO124 := As (Kd.V_lower (Kd.V_mono (ok' := fun k_ => True) ho4 (fun k_ hk_ => trivial)) (below_size (kB HB.out))); replace HB := As (below_step (kB HB.out) hb); clear hb ho4)))
 repeat ((first | (refine scope_plain ?_ ?hg_; case hg_ => exact fun _ _ _ h_ => h_) | go_step3); go_wp2_with (first | ((with_reducible refine gate_dst (N := 9) rfl ?_); (try (refine gate_guard (by rfl) ?_; dsimp only)); refine conv_event (e := 5) rfl (N := 9) rfl 9 46 _ rfl Try.underlying9 Try.underlying46 Try.underlying5 a0 rfl (of_decide_eq_true (by first | (with_reducible assumption) | assumption)) ?_; intro v123 w3 ho4 hb hg_ hnew_; clear hg_ hnew_; (first | rw [← Ny122.out] at ho4 | (simp only [Int.reduceToNat] at ho4; rw [← Ny122.out] at ho4)); have HO124 := As (Kd.V_lower (Kd.V_mono (ok' := fun k_ => True) ho4 (fun k_ hk_ => trivial)) (below_size (kB HB.out))); replace HB := As (below_step (kB HB.out) hb); clear hb ho4)))
 go_loopg [5, 6] k (fun kq v5 v6 w' => ∃ (x5_1 : List (S50)) (x6_1 : Int), v6 = .int .i64 x6_1 ∧ Aside0 (ipv4_options.l0 kq y122 x5_1 x6_1 = some (r1, r2)) ∧ Aside0 (kq ≤ k) ∧ Aside0 (Kd.V (Kd.int .u8) 5 w' w.heap.size (fun k_ => some k_ ≠ (v5 : Value).ownBlock) v123 y122) ∧ Aside0 (Kd.R k50 50 w' w.heap.size (fun _ => True) v5 x5_1) ∧ Aside0 (Below w.heap.size w w'))
 case atStart => exact ⟨(([] : List (S50))), (0), kS, H', ⟨Nat.le_refl _⟩, ⟨by (with_reducible repeat (first | apply Kd.V_alloc | apply Kd.V_drewN | apply Kd.V_drew)); exact Kd.V_mono HO124.out (fun _ hk => (by simp [Value.ownBlock]))⟩, ⟨by first | exact Kd.R_nil _ _ _ _ _ | exact Kd.N_nil _ _ _ _ _ | exact Kd.V_nil _ _ _ _ _ | exact Kd.Q_nil _ _ _ _ _ | exact Kd.S_nil _ _ _ _ _⟩, ⟨kB HB.out⟩⟩
 clear H'
 try clear c2
 try clear c2b0
 try clear c2b1
 try clear c2b2
 obtain ⟨x5_1, x6_1, rfl, HA, HK1, HO_4, HO_5, HB⟩ := hrel
 cases gk with
 | zero => exact absurd HA.out (by simp [ipv4_options.l0])
 | succ k1 =>
  have H := HA.out
  clear HA
  simp only [ipv4_options.l0] at H
  by_cases c5 : x6_1 < (y122.length : Int)
  ·rw [if_pos c5] at H
   have c5b0 : decide (x6_1 < (y122.length : Int)) = true := decide_eq_true c5
   clear c5
   replace H := iS H
   obtain ⟨c6, H⟩ := H
   have c6b0 := decide_eq_true c6
   clear c6
   by_cases c7 : (rd y122 x6_1) = 0
   ·rw [if_pos c7] at H
    have c7b0 : ((rd y122 x6_1) == 0) = true := beq_iff_eq.mpr c7
    have c7b1 : ((rd y122 x6_1) != 0) = false := bne_eq_false_iff_eq.mpr c7
    clear c7
    simp only [Option.some.injEq, Prod.mk.injEq] at H
    obtain ⟨rfl, rfl⟩ := H
    obtain ⟨Ao8, co8, eo8⟩ := Kd.V_slice HO_4.out
    subst eo8
    have p125 : 0 ≤ (x6_1 : Int) := of_decide_eq_true (by first | (with_reducible assumption) | assumption)
    have q125 : x6_1 < (y122.length : Int) := of_decide_eq_true (by first | (with_reducible assumption) | assumption)
    obtain ⟨ad125, e125, hx125_0⟩ := Kd.at_int (Kd.V_reads' HO_4.out).2.2 x6_1 p125 q125
    cases e125
    replace p125 := eq_true p125
    replace q125 := eq_true q125
    (try go_wp2)
    repeat ((first | (refine scope_plain ?_ ?hg_; case hg_ => exact fun _ _ _ h_ => h_) | go_step3); go_wp2)
    go_ret2
    exact ⟨_, kE, by (with_reducible repeat (first | apply Kd.R_alloc | apply Kd.R_drewN | apply Kd.R_drew)); exact HO_5.out, by exact kB HB.out⟩
   rw [if_neg c7] at H
   have c7b0 : ((rd y122 x6_1) == 0) = false := beq_eq_false_iff_ne.mpr c7
   have c7b1 : ((rd y122 x6_1) != 0) = true := bne_iff_ne.mpr c7
   by_cases c9 : (rd y122 x6_1) = 1
   ·rw [if_pos c9] at H
    have c9b0 : ((rd y122 x6_1) == 1) = true := beq_iff_eq.mpr c9
    have c9b1 : ((rd y122 x6_1) != 1) = false := bne_eq_false_iff_eq.mpr c9
    clear c9
    have H' := As H
    clear H
    obtain ⟨Ao10, co10, eo10⟩ := Kd.V_slice HO_4.out
    subst eo10
    have p125 : 0 ≤ (x6_1 : Int) := of_decide_eq_true (by first | (with_reducible assumption) | assumption)
    have q125 : x6_1 < (y122.length : Int) := of_decide_eq_true (by first | (with_reducible assumption) | assumption)
    obtain ⟨ad125, e125, hx125_0⟩ := Kd.at_int (Kd.V_reads' HO_4.out).2.2 x6_1 p125 q125
    cases e125
    replace p125 := eq_true p125
    replace q125 := eq_true q125
    (try go_wp2)
    repeat ((first | (refine scope_plain ?_ ?hg_; case hg_ => exact fun _ _ _ h_ => h_) | go_step3); go_wp2)
    go_roundg k1
    case measure => have := HK1.out; omega
    case rel => exact ⟨(x5_1), (wrap64 (x6_1 + 1)), kS, H', ⟨by have := HK1.out; omega⟩, ⟨by (with_reducible repeat (first | apply Kd.V_alloc | apply Kd.V_drewN | apply Kd.V_drew)); exact HO_4.out⟩, ⟨by (with_reducible repeat (first | apply Kd.R_alloc | apply Kd.R_drewN | apply Kd.R_drew)); exact HO_5.out⟩, ⟨kB HB.out⟩⟩
   rw [if_neg c9] at H
   have c9b0 : ((rd y122 x6_1) == 1) = false := beq_eq_false_iff_ne.mpr c9
   have c9b1 : ((rd y122 x6_1) != 1) = true := bne_iff_ne.mpr c9
   by_cases c11 : (wrap64 (x6_1 + 1)) = (y122.length : Int)
   ·rw [if_pos c11] at H
    have c11b0 : ((wrap64 (x6_1 + 1)) == (y122.length : Int)) = true := beq_iff_eq.mpr c11
    have c11b1 : ((wrap64 (x6_1 + 1)) != (y122.length : Int)) = false := bne_eq_false_iff_eq.mpr c11
    clear c11
    simp only [Option.some.injEq, Prod.mk.injEq] at H
    obtain ⟨rfl, rfl⟩ := H
    obtain ⟨Ao12, co12, eo12⟩ := Kd.V_slice HO_4.out
    subst eo12
    have p125 : 0 ≤ (x6_1 : Int) := of_decide_eq_true (by first | (with_reducible assumption) | assumption)
    have q125 : x6_1 < (y122.length : Int) := of_decide_eq_true (by first | (with_reducible assumption) | assumption)
    obtain ⟨ad125, e125, hx125_0⟩ := Kd.at_int (Kd.V_reads' HO_4.out).2.2 x6_1 p125 q125
    cases e125
    replace p125 := eq_true p125
    replace q125 := eq_true q125
    (try go_wp2)
    repeat ((first | (refine scope_plain ?_ ?hg_; case hg_ => exact fun _ _ _ h_ => h_) | go_step3); go_wp2)
    go_ret2
    exact ⟨_, kE, by first | exact Kd.R_nil _ _ _ _ _ | exact Kd.N_nil _ _ _ _ _ | exact Kd.V_nil _ _ _ _ _ | exact Kd.Q_nil _ _ _ _ _ | exact Kd.S_nil _ _ _ _ _, by exact kB HB.out⟩
   rw [if_neg c11] at H
   have c11b0 : ((wrap64 (x6_1 + 1)) == (y122.length : Int)) = false := beq_eq_false_iff_ne.mpr c11
   have c11b1 : ((wrap64 (x6_1 + 1)) != (y122.length : Int)) = true := bne_iff_ne.mpr c11
   obtain ⟨ji13, hji13⟩ : ∃ j_ : Int, (wrap64 (x6_1 + 1)) = j_ := ⟨_, rfl⟩
   replace H : (if 0 ≤ (ji13) then (if (ji13) < (y122.length : Int) then (if (wrap64 (x6_1 + (wrap64 (rd y122 (ji13))))) < (wrap64 (x6_1 + 2)) then (some (([] : List (S50)), false)) else (if (wrap64 (x6_1 + (wrap64 (rd y122 (ji13))))) > (y122.length : Int) then (some (([] : List (S50)), false)) else (if 0 ≤ (wrap64 (x6_1 + 2)) then (if (wrap64 (x6_1 + 2)) ≤ (wrap64 (x6_1 + (wrap64 (rd y122 (ji13))))) then (if (wrap64 (x6_1 + (wrap64 (rd y122 (ji13))))) ≤ (y122.length : Int) then (if x5_1.length < 5864062014805 then (ipv4_options.l0 k1 y122 (x5_1 ++ [(⟨wrap64 (rd y122 x6_1), strOfNums ((y122.take ((wrap64 (x6_1 + (wrap64 (rd y122 (ji13))))) : Int).toNat).drop ((wrap64 (x6_1 + 2)) : Int).toNat)⟩ : S50)]) (wrap64 (x6_1 + (wrap64 (rd y122 (ji13)))))) else (none)) else (none)) else (none)) else (none)))) else (none)) else (none)) = some (r1, r2) := by first | (rw [hji13] at H; exact H) | (simp only [hji13] at H ⊢; exact H)
   (try rw [hji13] at c11b0)
   (try rw [hji13] at c11b1)
   have hji13w : (IntKind.i64.wrap (x6_1 + 1)) = ji13 := (i64_w _).trans hji13
   replace H := iS H
   obtain ⟨c14, H⟩ := H
   have c14b0 := decide_eq_true c14
   clear c14
   replace H := iS H
   obtain ⟨c15, H⟩ := H
   have c15b0 := decide_eq_true c15
   clear c15
   by_cases c16 : (wrap64 (x6_1 + (wrap64 (rd y122 (ji13))))) < (wrap64 (x6_1 + 2))
   ·rw [if_pos c16] at H
    have c16b0 : decide ((wrap64 (x6_1 + (wrap64 (rd y122 (ji13))))) < (wrap64 (x6_1 + 2))) = true := decide_eq_true c16
    clear c16
    simp only [Option.some.injEq, Prod.mk.injEq] at H
    obtain ⟨rfl, rfl⟩ := H
    obtain ⟨Ao17, co17, eo17⟩ := Kd.V_slice HO_4.out
    subst eo17
    have p125 : 0 ≤ (x6_1 : Int) := of_decide_eq_true (by first | (with_reducible assumption) | assumption)
    have q125 : x6_1 < (y122.length : Int) := of_decide_eq_true (by first | (with_reducible assumption) | assumption)
    obtain ⟨ad125, e125, hx125_0⟩ := Kd.at_int (Kd.V_reads' HO_4.out).2.2 x6_1 p125 q125
    cases e125
    replace p125 := eq_true p125
    replace q125 := eq_true q125
    have p126 : 0 ≤ ((ji13) : Int) := of_decide_eq_true (by first | (with_reducible assumption) | assumption)
    have q126 : (ji13) < (y122.length : Int) := of_decide_eq_true (by first | (with_reducible assumption) | assumption)
    obtain ⟨ad126, e126, hx126_0⟩ := Kd.at_int (Kd.V_reads' HO_4.out).2.2 (ji13) p126 q126
    obtain rfl : ad125 = ad126 := (by injection e126)
    replace p126 := eq_true p126
    replace q126 := eq_true q126
    (try go_wp2)
    repeat ((first | (refine scope_plain ?_ ?hg_; case hg_ => exact fun _ _ _ h_ => h_) | go_step3); go_wp2)
    go_ret2
    exact ⟨_, by first | rfl | (simp [errW_none, errW_some] <;> rfl) | (simp only [← hji13]; first | rfl | (simp [errW_none, errW_some] <;> rfl)) | (simp [*, errW_none, errW_some] <;> rfl), by first | exact Kd.R_nil _ _ _ _ _ | exact Kd.N_nil _ _ _ _ _ | exact Kd.V_nil _ _ _ _ _ | exact Kd.Q_nil _ _ _ _ _ | exact Kd.S_nil _ _ _ _ _, by exact kB HB.out⟩
   rw [if_neg c16] at H
   have c16b0 : decide ((wrap64 (x6_1 + (wrap64 (rd y122 (ji13))))) < (wrap64 (x6_1 + 2))) = false := decide_eq_false c16
   clear c16
   by_cases c18 : (wrap64 (x6_1 + (wrap64 (rd y122 (ji13))))) > (y122.length : Int)
   ·rw [if_pos c18] at H
    have c18b0 : decide ((y122.length : Int) < (wrap64 (x6_1 + (wrap64 (rd y122 (ji13)))))) = true := decide_eq_true c18
    clear c18
    simp only [Option.some.injEq, Prod.mk.injEq] at H
    obtain ⟨rfl, rfl⟩ := H
    obtain ⟨Ao19, co19, eo19⟩ := Kd.V_slice HO_4.out
    subst eo19
    have p125 : 0 ≤ (x6_1 : Int) := of_decide_eq_true (by first | (with_reducible assumption) | assumption)
    have q125 : x6_1 < (y122.length : Int) := of_decide_eq_true (by first | (with_reducible assumption) | assumption)
    obtain ⟨ad125, e125, hx125_0⟩ := Kd.at_int (Kd.V_reads' HO_4.out).2.2 x6_1 p125 q125
    cases e125
    replace p125 := eq_true p125
    replace q125 := eq_true q125
    have p126 : 0 ≤ ((ji13) : Int) := of_decide_eq_true (by first | (with_reducible assumption) | assumption)
    have q126 : (ji13) < (y122.length : Int) := of_decide_eq_true (by first | (with_reducible assumption) | assumption)
    obtain ⟨ad126, e126, hx126_0⟩ := Kd.at_int (Kd.V_reads' HO_4.out).2.2 (ji13) p126 q126
    obtain rfl : ad125 = ad126 := (by injection e126)
    replace p126 := eq_true p126
    replace q126 := eq_true q126
    (try go_wp2)
    repeat ((first | (refine scope_plain ?_ ?hg_; case hg_ => exact fun _ _ _ h_ => h_) | go_step3); go_wp2)
    go_ret2
    exact ⟨_, by first | rfl | (simp [errW_none, errW_some] <;> rfl) | (simp only [← hji13]; first | rfl | (simp [errW_none, errW_some] <;> rfl)) | (simp [*, errW_none, errW_some] <;> rfl), by first | exact Kd.R_nil _ _ _ _ _ | exact Kd.N_nil _ _ _ _ _ | exact Kd.V_nil _ _ _ _ _ | exact Kd.Q_nil _ _ _ _ _ | exact Kd.S_nil _ _ _ _ _, by exact kB HB.out⟩
   rw [if_neg c18] at H
   have c18b0 : decide ((y122.length : Int) < (wrap64 (x6_1 + (wrap64 (rd y122 (ji13)))))) = false := decide_eq_false c18
   clear c18
   obtain ⟨ji20, hji20⟩ : ∃ j_ : Int, (wrap64 (x6_1 + 2)) = j_ := ⟨_, rfl⟩
   replace H : (if 0 ≤ (ji20) then (if (ji20) ≤ (wrap64 (x6_1 + (wrap64 (rd y122 (ji13))))) then (if (wrap64 (x6_1 + (wrap64 (rd y122 (ji13))))) ≤ (y122.length : Int) then (if x5_1.length < 5864062014805 then (ipv4_options.l0 k1 y122 (x5_1 ++ [(⟨wrap64 (rd y122 x6_1), strOfNums ((y122.take ((wrap64 (x6_1 + (wrap64 (rd y122 (ji13))))) : Int).toNat).drop ((ji20) : Int).toNat)⟩ : S50)]) (wrap64 (x6_1 + (wrap64 (rd y122 (ji13)))))) else (none)) else (none)) else (none)) else (none)) = some (r1, r2) := by first | (rw [hji20] at H; exact H) | (simp only [hji20] at H ⊢; exact H)
   (try rw [hji20] at c16b0)
   have hji20w : (IntKind.i64.wrap (x6_1 + 2)) = ji20 := (i64_w _).trans hji20
   replace H := iS H
   obtain ⟨c21, H⟩ := H
   have c21b0 := eq_true c21
   have c21b1 := decide_eq_true c21
   clear c21
   replace H := iS H
   obtain ⟨c22, H⟩ := H
   have c22b0 := eq_true c22
   have c22b1 := decide_eq_true c22
   replace H := iS H
   obtain ⟨c23, H⟩ := H
   have c23b0 := eq_true c23
   have c23b1 := decide_eq_true c23
   obtain ⟨y128, hy128⟩ : ∃ y_ : List Int, y_ = ((y122.take ((wrap64 (x6_1 + (wrap64 (rd y122 (ji13))))) : Int).toNat).drop ((ji20) : Int).toNat) := ⟨_, rfl⟩
   replace H : (if x5_1.length < 5864062014805 then (ipv4_options.l0 k1 y122 (x5_1 ++ [(⟨wrap64 (rd y122 x6_1), strOfNums y128⟩ : S50)]) (wrap64 (x6_1 + (wrap64 (rd y122 (ji13)))))) else (none)) = some (r1, r2) := by first | (rw [hy128]; with_reducible exact H) | (have H2_ := (Option.bind_some _ _).symm.trans H; rw [hy128]; with_reducible exact H2_) | (have H2_ := (Option.bind_some _ _).symm.trans H; with_reducible exact H2_) | with_reducible exact H | (rw [hy128]; exact H) | exact H
   have Ny128 := As hy128
   clear hy128
   replace H := iS H
   obtain ⟨c24, H⟩ := H
   have LMc24 := As c24
   clear c24
   obtain ⟨y132, hy132⟩ : ∃ y_ : List (S50), y_ = (x5_1 ++ [(⟨wrap64 (rd y122 x6_1), strOfNums y128⟩ : S50)]) := ⟨_, rfl⟩
   replace H : (ipv4_options.l0 k1 y122 y132 (wrap64 (x6_1 + (wrap64 (rd y122 (ji13)))))) = some (r1, r2) := by first | (rw [hy132]; with_reducible exact H) | (have H2_ := (Option.bind_some _ _).symm.trans H; rw [hy132]; with_reducible exact H2_) | (have H2_ := (Option.bind_some _ _).symm.trans H; with_reducible exact H2_) | with_reducible exact H | (rw [hy132]; exact H) | exact H
   have Ny132 := As hy132
   clear hy132
   have H' := As H
   clear H
   obtain ⟨Ao25, co25, eo25⟩ := Kd.V_slice HO_4.out
   subst eo25
   have p125 : 0 ≤ (x6_1 : Int) := of_decide_eq_true (by first | (with_reducible assumption) | assumption)
   have q125 : x6_1 < (y122.length : Int) := of_decide_eq_true (by first | (with_reducible assumption) | assumption)
   obtain ⟨ad125, e125, hx125_0⟩ := Kd.at_int (Kd.V_reads' HO_4.out).2.2 x6_1 p125 q125
   cases e125
   replace p125 := eq_true p125
   replace q125 := eq_true q125
   have p126 : 0 ≤ ((ji13) : Int) := of_decide_eq_true (by first | (with_reducible assumption) | assumption)
   have q126 : (ji13) < (y122.length : Int) := of_decide_eq_true (by first | (with_reducible assumption) | assumption)
   obtain ⟨ad126, e126, hx126_0⟩ := Kd.at_int (Kd.V_reads' HO_4.out).2.2 (ji13) p126 q126
   obtain rfl : ad125 = ad126 := (by injection e126)
   replace p126 := eq_true p126
   replace q126 := eq_true q126
   (try go_wp2)
   repeat ((first | (refine scope_plain ?_ ?hg_; case hg_ => exact fun _ _ _ h_ => h_) | go_step3); go_wp2)
   replace HO_4 := As (Kd.V_drew HO_4.out)
   replace HO_5 := As (Kd.R_drew HO_5.out)
   replace HB := As (below_drew1 HB.out)
   have p127 : 0 ≤ (x6_1 : Int) := of_decide_eq_true (by first | (with_reducible assumption) | assumption)
   have q127 : x6_1 < (y122.length : Int) := of_decide_eq_true (by first | (with_reducible assumption) | assumption)
   obtain ⟨ad127, e127, hx127_0⟩ := Kd.at_int (Kd.V_reads' HO_4.out).2.2 x6_1 p127 q127
   obtain rfl : ad125 = ad127 := (by injection e127)
   replace p127 := eq_true p127
   replace q127 := eq_true q127
   have q27 : ((wrap64 (x6_1 + (wrap64 (rd y122 (ji13))))) : Int) ≤ ((y122.length : Int) : Int) := of_decide_eq_true (by first | (with_reducible assumption) | assumption)
   obtain ⟨i027, hi027, _, hsz27, _⟩ := info_parts info5
   have hroom27 : y122.length ≤ co25 := (Kd.V_reads' HO_4.out).2.1
   have hC27 : Kd.C (Kd.int .u8) _ (some ad125) y122.length y122 := (Kd.V_reads' HO_4.out).2.2
   have ql27 : ((ji20) : Int) ≤ ((wrap64 (x6_1 + (wrap64 (rd y122 (ji13))))) : Int) := of_decide_eq_true (by first | (with_reducible assumption) | assumption)
   have q027 : (0 : Int) ≤ ((ji20) : Int) := of_decide_eq_true (by first | (with_reducible assumption) | assumption)
   have hcut27 := cut_max (P := Try.prog) 46 5 .i64 .i64 .i64 Try.underlying46 hi027 1 hsz27 (some ad125) y122.length co25 (ji20) (wrap64 (x6_1 + (wrap64 (rd y122 (ji13))))) q027 ql27 q27 hroom27
   have hr27 := Kd.C_drop (m := ((ji20) : Int).toNat) (c := ((wrap64 (x6_1 + (wrap64 (rd y122 (ji13))))) : Int).toNat) (Kd.C_take (m := ((wrap64 (x6_1 + (wrap64 (rd y122 (ji13))))) : Int).toNat) hC27 (by omega)) (by first | omega | (rw [List.length_take]; omega)) (by first | exact Nat.le_refl _ | omega | (rw [List.length_take]; omega))
   obtain ⟨A27, hA27⟩ : ∃ A1, A1 = (if ((wrap64 (x6_1 + (wrap64 (rd y122 (ji13))))) : Int).toNat = ((ji20) : Int).toNat then (some ad125) else ((some ad125) : Option Addr).map (·.add (((ji20) : Int).toNat * 1))) := ⟨_, rfl⟩
   have hy27 : y128.length = ((wrap64 (x6_1 + (wrap64 (rd y122 (ji13))))) : Int).toNat - ((ji20) : Int).toNat := (by rw [Ny128.out, List.length_drop, List.length_take] <;> omega)
   rw [show ((y122).take ((wrap64 (x6_1 + (wrap64 (rd y122 (ji13))))) : Int).toNat).drop ((ji20) : Int).toNat = y128 from Ny128.out.symm] at hr27
   replace hr27 : Kd.C (Kd.int .u8) _ A27 y128.length y128 := (by rw [hA27]; exact hr27)
   rw [← hy27, ← hA27] at hcut27
   have HR131 := As hr27
   have HC131 := As (Nat.le_refl y128.length)
   clear hr27 hC27 hroom27 hi027 hsz27
   have KY27 := As hy27
   have KA27 := As hA27
   clear hy27 hA27
   have KL27 := As (show ((wrap64 (x6_1 + (wrap64 (rd y122 (ji13))))) : Int).toNat ≤ y122.length from by omega)
   have KM27 := As (show ((ji20) : Int).toNat ≤ ((wrap64 (x6_1 + (wrap64 (rd y122 (ji13))))) : Int).toNat from by omega)
   replace q27 := eq_true q27
   refine start_ (n := 17) (S := fun w' => w'.cell? (ad125.add (x6_1).toNat) = some (.int .u8 (rd y122 x6_1)) ∧ Kd.C (Kd.int .u8) w' A27 y128.length y128) (ds := [14, 15]) #[O, O, O, O, O, O, O, O, O, O, O, O, O, O, O, O, O] (by kernel_rfl) rfl rfl ⟨hx127_0, HR131.out⟩ (fun hHeld => ?_); refine with_tabW ipv4_options.tab14 ipv4_options.bits14 (fun HT_ HW_ => ?_)
   generalize wr.drew = w26 at HO_4 HO_5 HB HR131 hx127_0 hHeld ⊢
   refine kP 0 47 #[I, O, O, O, O, O, O, O, O, O, O, O, O, O, O, O, O] ?_ (any_of HT_.out (by kernel_rfl))
   refine kP 1 48 #[I, I, O, O, O, O, O, O, O, O, O, O, O, O, O, O, O] ?_ (any_of HT_.out (by kernel_rfl))
   refine kP 2 49 #[I, I, I, O, O, O, O, O, O, O, O, O, O, O, O, O, O] ?_ (any_of HT_.out (by kernel_rfl))
   refine kP 3 50 #[I, I, I, I, O, O, O, O, O, O, O, O, O, O, O, O, O] ?_ (any_of HT_.out (by kernel_rfl))
   refine kP 6 53 #[I, I, I, I, O, O, I, O, O, O, O, O, O, O, O, O, O] ?_ (any_of HT_.out (by kernel_rfl))
   refine kP 7 54 #[I, I, I, I, O, O, I, I, O, O, O, O, O, O, O, O, O] ?_ (any_of HT_.out (by kernel_rfl))
   refine kP 8 55 #[I, I, I, I, O, O, I, I, I, O, O, O, O, O, O, O, O] ?_ (any_of HT_.out (by kernel_rfl))
   refine kP 9 56 #[I, I, I, I, O, O, I, I, I, I, O, O, O, O, O, O, O] ?_ (any_of HT_.out (by kernel_rfl))
   refine kP 10 57 #[I, I, I, I, O, O, I, I, I, I, I, O, O, O, O, O, O] ?_ (any_of HT_.out (by kernel_rfl))
   refine kP 11 58 #[I, I, I, I, O, O, I, I, I, I, I, I, O, O, O, O, O] ?_ (any_of HT_.out (by kernel_rfl))
   refine take_ (i := 12) (N := some 59) (v := ?_) (a' := ?_) #[I, I, I, I, O, O, I, I, I, I, I, I, I, O, O, O, O] rfl rfl (take_ofW HT_.out HW_.out (by kernel_rfl)) (fun _ _ _ h => h) (Or.inl ⟨by rfl, ?_⟩) hHeld ?_ ?_
   rotate_left
   ·rintro w' ⟨s0, s1⟩
    have hcv := Kd.C_string (P := Try.prog) (A := A27) (c := y128.length) Try.underlying46 Try.underlying5 Try.underlying9 s1
    go_simp
    with_reducible rfl
   rotate_left
   ·simp only [Act.put, sA, sZ, sS, i64_w, i32_w]
    rfl
   refine take_ (i := 4) (N := some 51) (v := ?_) (a' := ?_) #[I, I, I, I, I, O, I, I, I, I, I, I, I, O, O, O, O] rfl rfl (take_ofW HT_.out HW_.out (by kernel_rfl)) (fun _ _ _ h => h) (Or.inl ⟨by rfl, ?_⟩) hHeld ?_ ?_
   rotate_left
   ·rintro w' ⟨s0, s1⟩
    go_simp
    with_reducible rfl
   rotate_left
   ·simp only [Act.put, sA, sZ, sS, i64_w, i32_w]
    rfl
   refine kP 5 52 #[I, I, I, I, I, I, I, I, I, I, I, I, I, O, O, O, O] ?_ (any_of HT_.out (by kernel_rfl))
   refine kP 13 60 #[I, I, I, I, I, I, I, I, I, I, I, I, I, I, O, O, O] ?_ (any_of HT_.out (by kernel_rfl))
   refine last_ (i := 14) (N := some 61) #[I, I, I, I, I, I, I, I, I, I, I, I, I, I, I, O, O] rfl rfl (one_of HT_.out (by kernel_rfl)) (by decide) (fun K hK => ?_)
   refine value_ (w1 := ?_) (v := ?_) (by rfl) rfl ?_ ?_
   rotate_left 2
   ·go_simp
    constructor
    ·rfl
    rfl
   refine hK.out _ _ ?_
   clear hK K
   refine nP ?_
   refine last_ (i := 15) (N := some 62) #[I, I, I, I, I, I, I, I, I, I, I, I, I, I, I, I, O] rfl rfl (one_of HT_.out (by kernel_rfl)) (by decide) (fun K hK => ?_)
   refine Kd.R_append_step k50 (w0 := w) w.heap.size (by rfl) (.tmp 47) (.tmp 61) 26 50 (.agg #[(.int .i64 0), (.string ⟨#[]⟩)]) 24 rfl Try.underlying26 info50 rfl (by decide) (by omega) u5 x5_1 (⟨wrap64 (rd y122 x6_1), strOfNums y128⟩ : S50) [.int .i64 (wrap64 (rd y122 x6_1)), .string (strOfNums y128)] (fun _ => True) (fun _ => False) rfl rfl ?aP (fun _ hk => hk.elim) ?aF ?aO ?aB ?aS ?aL ?_
   (case aP => exact k50_mkM _ _ _ (⟨wrap64 (rd y122 x6_1), strOfNums y128⟩ : S50))
   (case aB => exact (kB HB.out))
   (case aF => exact (fun _ _ => trivial))
   (case aO => exact (kR HO_5.out))
   (case aS => exact (below_size (kB HB.out)))
   (case aL => have := LMc24.out; omega)
   intro v133 w29 ho hb hg hat
   rw [← Ny132.out] at ho
   replace HB := As (hb)
   replace HO_4 := As (Kd.V_afterv (ok := (fun _ => True)) (by (with_reducible repeat (first | apply Kd.V_alloc | apply Kd.V_drewN | apply Kd.V_drew)); exact Kd.V_mono HO_4.out (fun _ hk => ⟨trivial, hk⟩)) hg hat)
   have HO134 := As (ho)
   clear HO_5
   clear ho hb hg hat
   refine hK.out _ _ ?_
   clear hK K
   refine nP ?_
   refine kP 16 5 #[I, I, I, I, I, I, I, I, I, I, I, I, I, I, I, I, I] ?_ (any_of HT_.out (by kernel_rfl))
   refine done_ (done_of HT_.out (by kernel_rfl)) ?_
   (try go_wp2)
   repeat ((first | (refine scope_plain ?_ ?hg_; case hg_ => exact fun _ _ _ h_ => h_) | go_step3); go_wp2)
   go_roundg k1
   case measure => have := HK1.out; omega
   case rel => exact ⟨(y132), (wrap64 (x6_1 + (wrap64 (rd y122 (ji13))))), (by first | rfl | (simp; done) | (simp only [← hji13] <;> (first | rfl | simp)) | (simp [*]; done)), H', ⟨by have := HK1.out; omega⟩, ⟨by (with_reducible repeat (first | apply Kd.V_alloc | apply Kd.V_drewN | apply Kd.V_drew)); exact Kd.V_mono HO_4.out (fun _ hk => hk.2)⟩, ⟨by (with_reducible repeat (first | apply Kd.R_alloc | apply Kd.R_drewN | apply Kd.R_drew)); exact HO134.out⟩, ⟨kB HB.out⟩⟩
  rw [if_neg c5] at H
  have c5b0 : decide (x6_1 < (y122.length : Int)) = false := decide_eq_false c5
  clear c5
  simp only [Option.some.injEq, Prod.mk.injEq] at H
  obtain ⟨rfl, rfl⟩ := H
  obtain ⟨Ao30, co30, eo30⟩ := Kd.V_slice HO_4.out
  subst eo30
  (try go_wp2)
  repeat ((first | (refine scope_plain ?_ ?hg_; case hg_ => exact fun _ _ _ h_ => h_) | go_step3); go_wp2)
  go_ret2
  exact ⟨_, kE, by (with_reducible repeat (first | apply Kd.R_alloc | apply Kd.R_drewN | apply Kd.R_drew)); exact HO_5.out, by exact kB HB.out⟩

end Go.Proofs.Ytobioaommmgehaa.Z
-- short
-- short2
