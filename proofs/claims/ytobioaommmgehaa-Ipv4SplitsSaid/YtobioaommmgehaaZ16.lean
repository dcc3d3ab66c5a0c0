/- Functions and their walks, printed by xprint.py. -/
import Derived.Test.YtobioaommmgehaaZ0
import Derived.Test.YtobioaommmgehaaZ15
namespace Go.Proofs.Ytobioaommmgehaa.Z
open Go.RowKit Go.Proofs.YtobioaommmgehaaW.PrintWords Go.Proofs.YtobioaommmgehaaW.PrintLast Go.Proofs.YtobioaommmgehaaW.PrintMore
attribute [local go_sem] max2_int min2_int max_two min_two max_three min_three max_four min_four   -- for this text's walks alone
set_option linter.unusedVariables false
set_option linter.unusedSimpArgs false

/-! ### intrusionref01_Put: function 44 -/
mutual
def intrusionref01_Put.j0 : Nat → Int → Int → Bool → Option (ByteArray)
 | 0, _, _, _ => none
 | k + 1, x0, x1, x20 => if x20 = true then (some (⟨#[]⟩ : ByteArray)) else (if x1 = 1 then (some (strOfNums (([(x0) % 256] : List Int)))) else ((intrusionref01_Put.f k (wrap64 (Int.tdiv x0 256)) (wrap64 (x1 - 1))).bind fun t400 => ((some (([(Int.tmod x0 256) % 256] : List Int) : List Int)).bind fun y401 => (if t400.size + (strOfNums y401).size ≤ 9223372036854775807 then (some (t400 ++ (strOfNums y401))) else (none)))))
def intrusionref01_Put.f : Nat → Int → Int → Option (ByteArray)
 | 0, _, _ => none
 | k + 1, a0, a1 => if a1 < 1 then (intrusionref01_Put.j0 k a0 a1 true) else (if a1 > 7 then (intrusionref01_Put.j0 k a0 a1 true) else (if a0 < 0 then (intrusionref01_Put.j0 k a0 a1 true) else ((intrusionref01_Power.f k a1).bind fun t396 => (intrusionref01_Put.j0 k a0 a1 (decide (a0 ≥ t396))))))
end
theorem intrusionref01_Put.mono_l : ∀ k, (∀ y0 y1, LeO (intrusionref01_Put.f k y0 y1) (intrusionref01_Put.f (k + 1) y0 y1)) ∧ (∀ y0 y1 y2, LeO (intrusionref01_Put.j0 k y0 y1 y2) (intrusionref01_Put.j0 (k + 1) y0 y1 y2))
 | 0 => ⟨fun _ _ r h => by simp [intrusionref01_Put.f] at h, fun _ _ _ r h => by simp [intrusionref01_Put.j0] at h⟩
 | k + 1 => by
  obtain ⟨ih0, ih1⟩ := intrusionref01_Put.mono_l k
  refine ⟨?_, ?_⟩
  ·intro y0 y1
   unfold intrusionref01_Put.f
   repeat' first | with_reducible first | apply ih0 | apply ih1 | apply intrusionref01_Power.mono | apply LeO.refl | apply LeO.none | refine LeO.ite ?_ ?_ | refine LeO.bind ?_ (fun _ => ?_)
  intro y0 y1 y2
  unfold intrusionref01_Put.j0
  repeat' first | with_reducible first | apply ih0 | apply ih1 | apply intrusionref01_Power.mono | apply LeO.refl | apply LeO.none | refine LeO.ite ?_ ?_ | refine LeO.bind ?_ (fun _ => ?_)
theorem intrusionref01_Put.mono : ∀ a0 a1 k, LeO (intrusionref01_Put.f k a0 a1) (intrusionref01_Put.f (k + 1) a0 a1) := by
 intro a0 a1 k
 obtain ⟨ih0, ih1⟩ := intrusionref01_Put.mono_l k
 exact ih0 a0 a1
def intrusionref01_Put.T5 : Bool × List (List Nat × List Nat) := (true, [([], []), ([0], [0]), ([], []), ([2], [2]), ([1, 3], [1, 3]), ([], []), ([5], [5]), ([6], [6]), ([7], [7]), ([8], [8]), ([4, 9], [4, 9]), ([10, 4, 0, 1, 2, 3, 4, 5, 6, 7, 8, 9, 10], [10])])
def intrusionref01_Put.B5 : List Nat := [0, 1, 0, 4, 15, 0, 32, 96, 224, 480, 1023, 2047]
theorem intrusionref01_Put.tab5 : rtab .any (opsOf Try.f44 5) = intrusionref01_Put.T5 := by kernel_rfl
theorem intrusionref01_Put.bits5 : waitsOk intrusionref01_Put.T5.2 intrusionref01_Put.B5 = true := by kernel_rfl
set_option maxHeartbeats 8000000 in
set_option maxRecDepth 100000 in
theorem intrusionref01_Put.calls (k : Nat) : ∀ (a0 : Int) (a1 : Int) (r : ByteArray) (w : World) (h : intrusionref01_Put.f k a0 a1 = some r),
  Calls Try.prog 44 #[.int .i64 a0, .int .i64 a1] w fun e w' => e = .returned (.string r) ∧ Below w.heap.size w w' := by
 induction k using Nat.strongRecOn with
 | _ k ih =>
 intro a0 a1 r w h
 cases k with
 | zero => exact absurd h (by simp [intrusionref01_Put.f])
 | succ k =>
 simp only [intrusionref01_Put.f] at h
 have HB := As (Below.refl w.heap.size w)
 have H : (if a1 < 1 then (intrusionref01_Put.j0 k a0 a1 true) else (if a1 > 7 then (intrusionref01_Put.j0 k a0 a1 true) else (if a0 < 0 then (intrusionref01_Put.j0 k a0 a1 true) else ((intrusionref01_Power.f k a1).bind fun t396 => (intrusionref01_Put.j0 k a0 a1 (decide (a0 ≥ t396))))))) = some r := h
 clear h
 have HC3 := As H
 clear H
 go_enter Try.func44, Try.ntmps44
 go_upto_region 1 with (fail)
 go_cut [20] (fun v20 wc => ∃ (kq : Nat) (x20_2 : Bool), v20 = .bool x20_2 ∧ Aside0 (intrusionref01_Put.j0 kq a0 a1 x20_2 = some r) ∧ Aside0 (kq ≤ k) ∧ Aside0 (Below w.heap.size w wc))
 case first =>
  have H := HC3.out
  clear HC3
  by_cases c4 : a1 < 1
  ·rw [if_pos c4] at H
   have c4b0 : decide (a1 < 1) = true := decide_eq_true c4
   clear c4
   (first | rw [c4b0] | (simp only [i64_w, i32_w]; rw [c4b0]) | skip)
   have H' := As H
   clear H
   go_wp2
   go_meet
   case rel => exact ⟨_, (true), kS, H', ⟨by first | omega | exact Nat.le_refl _⟩, ⟨kB HB.out⟩⟩
  rw [if_neg c4] at H
  have c4b0 : decide (a1 < 1) = false := decide_eq_false c4
  clear c4
  (first | rw [c4b0] | (simp only [i64_w, i32_w]; rw [c4b0]) | skip)
  by_cases c5 : a1 > 7
  ·rw [if_pos c5] at H
   have c5b0 : decide (7 < a1) = true := decide_eq_true c5
   clear c5
   have H' := As H
   clear H
   go_wp2
   go_meet
   case rel => exact ⟨_, (true), kS, H', ⟨by first | omega | exact Nat.le_refl _⟩, ⟨kB HB.out⟩⟩
  rw [if_neg c5] at H
  have c5b0 : decide (7 < a1) = false := decide_eq_false c5
  clear c5
  by_cases c6 : a0 < 0
  ·rw [if_pos c6] at H
   have c6b0 : decide (a0 < 0) = true := decide_eq_true c6
   clear c6
   have H' := As H
   clear H
   go_wp2
   go_meet
   case rel => exact ⟨_, (true), kS, H', ⟨by first | omega | exact Nat.le_refl _⟩, ⟨kB HB.out⟩⟩
  rw [if_neg c6] at H
  have c6b0 : decide (a0 < 0) = false := decide_eq_false c6
  clear c6
  replace H := bS H
  obtain ⟨t396, A7, H⟩ := H
  have H' := As H
  clear H
  go_wp2_with (first | (go_at_call 68; (with_reducible refine (intrusionref01_Power.calls k a1 t396 _ A7.out).mono ?_); rintro e w' ⟨rfl, ⟨nd, rfl⟩⟩))
  go_meet
  case rel => exact ⟨_, (decide (a0 ≥ t396)), kS, H', ⟨by first | omega | exact Nat.le_refl _⟩, ⟨kB HB.out⟩⟩
 clear HC3
 obtain ⟨kq, x20_2, rfl, HA, HJ2, HB⟩ := hcut
 cases kq with
 | zero => exact absurd HA.out (by simp [intrusionref01_Put.j0])
 | succ kj2 =>
  have H := HA.out
  clear HA
  simp only [intrusionref01_Put.j0] at H
  by_cases c8 : x20_2 = true
  ·subst c8
   rw [if_pos rfl] at H
   obtain rfl := Option.some.inj H
   go_wp2
   go_ret
   exact ⟨kE, by exact kB HB.out⟩
  replace c8 := Bool.eq_false_iff.mpr c8
  subst c8
  rw [if_neg (show ¬ (false = true) by decide)] at H
  by_cases c9 : a1 = 1
  ·rw [if_pos c9] at H
   have c9b0 : (a1 == 1) = true := beq_iff_eq.mpr c9
   have c9b1 : (a1 != 1) = false := bne_eq_false_iff_eq.mpr c9
   clear c9
   obtain ⟨y397, hy397⟩ : ∃ y_ : List Int, y_ = (([(a0) % 256] : List Int)) := ⟨_, rfl⟩
   replace H : (some (strOfNums y397)) = some r := by first | (rw [hy397]; with_reducible exact H) | (have H2_ := (Option.bind_some _ _).symm.trans H; rw [hy397]; with_reducible exact H2_) | (have H2_ := (Option.bind_some _ _).symm.trans H; with_reducible exact H2_) | with_reducible exact H | (rw [hy397]; exact H) | exact H
   have Ny397 := As hy397
   clear hy397
   obtain rfl := Option.some.inj H
   go_wp2_with (first | ((with_reducible refine gate_dst (N := 25) rfl ?_); refine Kd.R_lit (Kd.int .u8) _ 5 rfl (N := 25) rfl (xs := ([(a0) % 256] : List Int)) (inner := [.int .u8 ((a0) % 256)]) (ok := fun _ => True) (okp := fun _ => True) kG ?hp (fun _ hk => hk) trivial (Below.refl _ _) (Nat.le_refl _) (by simp) ?_; (case hp => exact (Reps.one (show Kd.M (Kd.int .u8) _ _ _ ((a0) % 256) [.int .u8 ((a0) % 256)] from rfl) (Reps.none _ _))); intro v398 w10 ho11 hb hg_ hnew_; clear hg_ hnew_; (first | rw [← Ny397.out] at ho11 | (simp only [Int.reduceToNat] at ho11; rw [← Ny397.out] at ho11)); have HO399 := As (Kd.R_lower ho11 (below_size (kB HB.out))); replace HB := As (below_step (kB HB.out) hb); clear hb ho11; have hcv12 := own_string (P := Try.prog) Try.underlying46 Try.underlying5 Try.underlying9 (Kd.own_of_R HO399.out)))
   go_ret
   exact ⟨kE, by exact kB HB.out⟩
  rw [if_neg c9] at H
  have c9b0 : (a1 == 1) = false := beq_eq_false_iff_ne.mpr c9
  have c9b1 : (a1 != 1) = true := bne_iff_ne.mpr c9
  replace H := bS H
  obtain ⟨t400, A13, H⟩ := H
  replace H := yS H
  obtain ⟨y401, Ny401, H⟩ := H
  replace H := iS H
  obtain ⟨c14, H⟩ := H
  have c14b0 := eq_true c14
  have c14b1 := decide_eq_true c14
  try have c14b2 := eq_false (Nat.not_lt.2 c14)
  obtain rfl := Option.some.inj H
  try go_wp2
  replace HB := As (below_drew1 HB.out)
  refine start_ (n := 12) (S := fun w' => True) (ds := []) #[O, O, O, O, O, O, O, O, O, O, O, O] (by kernel_rfl) rfl rfl trivial (fun hHeld => ?_); refine with_tabW intrusionref01_Put.tab5 intrusionref01_Put.bits5 (fun HT_ HW_ => ?_)
  generalize wc.drew = w15 at HB hHeld ⊢
  refine kP 0 27 #[I, O, O, O, O, O, O, O, O, O, O, O] ?_ (any_of HT_.out (by kernel_rfl))
  refine kP 1 28 #[I, I, O, O, O, O, O, O, O, O, O, O] ?_ (any_of HT_.out (by kernel_rfl))
  refine kP 2 29 #[I, I, I, O, O, O, O, O, O, O, O, O] ?_ (any_of HT_.out (by kernel_rfl))
  refine kP 3 30 #[I, I, I, I, O, O, O, O, O, O, O, O] ?_ (any_of HT_.out (by kernel_rfl))
  refine kP 5 32 #[I, I, I, I, O, I, O, O, O, O, O, O] ?_ (any_of HT_.out (by kernel_rfl))
  refine kP 6 33 #[I, I, I, I, O, I, I, O, O, O, O, O] ?_ (any_of HT_.out (by kernel_rfl))
  refine kP 7 34 #[I, I, I, I, O, I, I, I, O, O, O, O] ?_ (any_of HT_.out (by kernel_rfl))
  refine join_ (σ := Value) 2 #[I, I, I, I, I, I, I, I, I, I, O, O] (fun s_ => [(31, .string t400), (35, s_), (36, .string (strOfNums y401))]) (fun s_ w' => (Kd.R (Kd.int .u8) 5 w' w.heap.size (fun _ => True) s_ y401) ∧ (Below w.heap.size w w')) ?_ ?_
  rotate_left
  ·intro hCont
   refine two_ (i := 4) (j := 8) (Ni := some 31) (Nj := some 35) #[I, I, I, I, I, I, I, I, O, O, O, O] #[I, I, I, I, O, I, I, I, I, O, O, O] rfl rfl rfl rfl (two_of HT_.out (by kernel_rfl)) (by decide) (by decide) (fun K hK => ?_) (fun K hK => ?_)
   ·skip
    refine goes_ Try.func44 (by kernel_rfl) rfl #[.int .i64 (wrap64 (Int.tdiv a0 256)), .int .i64 (wrap64 (a1 - 1))] (by rfl) rfl rfl kA ?_
    with_reducible refine (ih kj2 (by have := HJ2.out; omega) (wrap64 (Int.tdiv a0 256)) (wrap64 (a1 - 1)) t400 _ A13.out).mono ?_
    rintro e w16 ⟨rfl, hb⟩
    refine ⟨_, rfl, ?_⟩
    replace HB := As (below_step (kB HB.out) hb)
    (try clear hb)
    (try clear hb2)
    (try clear hk)
    (try clear hi)
    refine hK.out _ _ trivial (fun hHeld => ?_)
    clear hK K
    refine nP ?_
    refine one_ (i := 8) (N := some 35) #[I, I, I, I, I, I, I, I, I, O, O, O] rfl rfl (one_of HT_.out (by kernel_rfl)) (by decide) (fun K hK => ?_)
    refine Kd.R_lit_step (Kd.int .u8) _ 5 rfl (N := 35) rfl (xs := ([(Int.tmod a0 256) % 256] : List Int)) (inner := [.int .u8 ((Int.tmod a0 256) % 256)]) (ok := fun _ => True) (okp := fun _ => True) kG ?hp (fun _ hk => hk) trivial (Below.refl _ _) (Nat.le_refl _) (by simp) ?_; (case hp => exact (Reps.one (show Kd.M (Kd.int .u8) _ _ _ ((Int.tmod a0 256) % 256) [.int .u8 ((Int.tmod a0 256) % 256)] from rfl) (Reps.none _ _)))
    intro v402 w17 ho18 hb hg_ hnew_
    clear hg_ hnew_
    (first | rw [← Ny401.out] at ho18 | (simp only [Int.reduceToNat] at ho18; rw [← Ny401.out] at ho18))
    have HO403 := As (Kd.R_lower ho18 (below_size (kB HB.out)))
    replace HB := As (below_step (kB HB.out) hb)
    clear hb ho18
    refine hK.out _ _ trivial (fun hHeld => ?_)
    clear hK K
    refine nP ?_
    refine one_ (i := 9) (N := some 36) #[I, I, I, I, I, I, I, I, I, I, O, O] rfl rfl (one_of HT_.out (by kernel_rfl)) (by decide) (fun K hK => ?_)
    have hcv19 := own_string (P := Try.prog) Try.underlying46 Try.underlying5 Try.underlying9 (Kd.own_of_R HO403.out)
    refine value_ (w1 := ?_) (v := ?_) (by rfl) rfl ?_ ?_
    rotate_left 2
    ·go_simp
     constructor
     ·rfl
     rfl
    clear hcv19
    refine hK.out _ _ trivial (fun hHeld => ?_)
    clear hK K
    refine nP ?_
    exact norm_ (by simp only [putAll, Act.put, sA, sZ, sS]) (hCont (v402) _ ⟨(kR HO403.out), (kB HB.out)⟩)
   skip
   refine Kd.R_lit_step (Kd.int .u8) _ 5 rfl (N := 35) rfl (xs := ([(Int.tmod a0 256) % 256] : List Int)) (inner := [.int .u8 ((Int.tmod a0 256) % 256)]) (ok := fun _ => True) (okp := fun _ => True) kG ?hp (fun _ hk => hk) trivial (Below.refl _ _) (Nat.le_refl _) (by simp) ?_; (case hp => exact (Reps.one (show Kd.M (Kd.int .u8) _ _ _ ((Int.tmod a0 256) % 256) [.int .u8 ((Int.tmod a0 256) % 256)] from rfl) (Reps.none _ _)))
   intro v402 w16 ho17 hb hg_ hnew_
   clear hg_ hnew_
   (first | rw [← Ny401.out] at ho17 | (simp only [Int.reduceToNat] at ho17; rw [← Ny401.out] at ho17))
   have HO403 := As (Kd.R_lower ho17 (below_size (kB HB.out)))
   replace HB := As (below_step (kB HB.out) hb)
   clear hb ho17
   refine hK.out _ _ trivial (fun hHeld => ?_)
   clear hK K
   refine nP ?_
   refine two_ (i := 4) (j := 9) (Ni := some 31) (Nj := some 36) #[I, I, I, I, I, I, I, I, I, O, O, O] #[I, I, I, I, O, I, I, I, I, I, O, O] rfl rfl rfl rfl (two_of HT_.out (by kernel_rfl)) (by decide) (by decide) (fun K hK => ?_) (fun K hK => ?_)
   ·skip
    refine goes_ Try.func44 (by kernel_rfl) rfl #[.int .i64 (wrap64 (Int.tdiv a0 256)), .int .i64 (wrap64 (a1 - 1))] (by rfl) rfl rfl kA ?_
    with_reducible refine (ih kj2 (by have := HJ2.out; omega) (wrap64 (Int.tdiv a0 256)) (wrap64 (a1 - 1)) t400 _ A13.out).mono ?_
    rintro e w18 ⟨rfl, hb⟩
    refine ⟨_, rfl, ?_⟩
    replace HO403 := As (Kd.R_below (kR HO403.out) hb)
    replace HB := As (below_step (kB HB.out) hb)
    (try clear hb)
    (try clear hb2)
    (try clear hk)
    (try clear hi)
    refine hK.out _ _ trivial (fun hHeld => ?_)
    clear hK K
    refine nP ?_
    refine one_ (i := 9) (N := some 36) #[I, I, I, I, I, I, I, I, I, I, O, O] rfl rfl (one_of HT_.out (by kernel_rfl)) (by decide) (fun K hK => ?_)
    have hcv19 := own_string (P := Try.prog) Try.underlying46 Try.underlying5 Try.underlying9 (Kd.own_of_R HO403.out)
    refine value_ (w1 := ?_) (v := ?_) (by rfl) rfl ?_ ?_
    rotate_left 2
    ·go_simp
     constructor
     ·rfl
     rfl
    clear hcv19
    refine hK.out _ _ trivial (fun hHeld => ?_)
    clear hK K
    refine nP ?_
    exact norm_ (by simp only [putAll, Act.put, sA, sZ, sS]) (hCont (v402) _ ⟨(kR HO403.out), (kB HB.out)⟩)
   skip
   have hcv18 := own_string (P := Try.prog) Try.underlying46 Try.underlying5 Try.underlying9 (Kd.own_of_R HO403.out)
   refine value_ (w1 := ?_) (v := ?_) (by rfl) rfl ?_ ?_
   rotate_left 2
   ·go_simp
    constructor
    ·rfl
    rfl
   clear hcv18
   refine hK.out _ _ trivial (fun hHeld => ?_)
   clear hK K
   refine nP ?_
   refine one_ (i := 4) (N := some 31) #[I, I, I, I, I, I, I, I, I, I, O, O] rfl rfl (one_of HT_.out (by kernel_rfl)) (by decide) (fun K hK => ?_)
   refine goes_ Try.func44 (by kernel_rfl) rfl #[.int .i64 (wrap64 (Int.tdiv a0 256)), .int .i64 (wrap64 (a1 - 1))] (by rfl) rfl rfl kA ?_
   with_reducible refine (ih kj2 (by have := HJ2.out; omega) (wrap64 (Int.tdiv a0 256)) (wrap64 (a1 - 1)) t400 _ A13.out).mono ?_
   rintro e w19 ⟨rfl, hb⟩
   refine ⟨_, rfl, ?_⟩
   replace HO403 := As (Kd.R_below (kR HO403.out) hb)
   replace HB := As (below_step (kB HB.out) hb)
   (try clear hb)
   (try clear hb2)
   (try clear hk)
   (try clear hi)
   refine hK.out _ _ trivial (fun hHeld => ?_)
   clear hK K
   refine nP ?_
   exact norm_ (by simp only [putAll, Act.put, sA, sZ, sS]) (hCont (v402) _ ⟨(kR HO403.out), (kB HB.out)⟩)
  rintro v402 w20 ⟨h0_, h1_⟩
  have n0_ : Aside0 (Kd.R (Kd.int .u8) 5 w20 w.heap.size (fun _ => True) v402 y401) := ⟨h0_⟩
  have n1_ : Aside0 (Below w.heap.size w w20) := ⟨h1_⟩
  clear HB
  clear h0_ h1_
  have HO403 := n0_
  have HB := n1_
  clear n0_ n1_
  have hHeld := trivial
  refine norm_ (a' := ?_) ?_ ?_
  rotate_left
  ·simp only [putAll, Act.put, sA, sZ, sS]
   rfl
  refine kP 10 37 #[I, I, I, I, I, I, I, I, I, I, I, O] ?_ (any_of HT_.out (by kernel_rfl))
  refine kP 11 4 #[I, I, I, I, I, I, I, I, I, I, I, I] ?_ (any_of HT_.out (by kernel_rfl))
  refine done_ (done_of HT_.out (by kernel_rfl)) ?_
  try go_wp2
  go_ret
  exact ⟨kE, by exact kB HB.out⟩

/-! ### intrusionref06_Bytes: function 45 -/
mutual
def intrusionref06_Bytes.l0 : Nat → List Int → Int → Bool → Int → Int → Option (ByteArray)
 | 0, _, _, _, _, _ => none
 | k + 1, x3, x4, x405000, x405001, x405002 => if x4 ≥ 0 then (if 0 ≤ (IntKind.u64.wrap (wrap64 (8 * x4))) then (if x3.length < 140737488355328 then (intrusionref06_Bytes.l0 k (x3 ++ [(shr .u64 x405001 (IntKind.u64.wrap (wrap64 (8 * x4)))) % 256]) (wrap64 (x4 - 1)) x405000 x405001 x405002) else (none)) else (none)) else (intrusionref06_Bytes.l1 k x3 7 x405000 x405001 x405002)
def intrusionref06_Bytes.l1 : Nat → List Int → Int → Bool → Int → Int → Option (ByteArray)
 | 0, _, _, _, _, _ => none
 | k + 1, x3, x5, x405000, x405001, x405002 => if x5 ≥ 0 then (if 0 ≤ (IntKind.u64.wrap (wrap64 (8 * x5))) then (if x3.length < 140737488355328 then (intrusionref06_Bytes.l1 k (x3 ++ [(shr .u64 x405002 (IntKind.u64.wrap (wrap64 (8 * x5)))) % 256]) (wrap64 (x5 - 1)) x405000 x405001 x405002) else (none)) else (none)) else (some (strOfNums x3))
def intrusionref06_Bytes.l2 : Nat → List Int → Int → Bool → Int → Int → Option (ByteArray)
 | 0, _, _, _, _, _ => none
 | k + 1, x3, x6, x405000, x405001, x405002 => if x6 ≥ 0 then (if 0 ≤ (IntKind.u64.wrap (wrap64 (8 * x6))) then (if x3.length < 140737488355328 then (intrusionref06_Bytes.l2 k (x3 ++ [(shr .u64 x405002 (IntKind.u64.wrap (wrap64 (8 * x6)))) % 256]) (wrap64 (x6 - 1)) x405000 x405001 x405002) else (none)) else (none)) else (some (strOfNums x3))
end
def intrusionref06_Bytes.f (k : Nat) (b0 : Bool) (b1 : Int) (b2 : Int) : Option (ByteArray) := if b0 = true then (intrusionref06_Bytes.l0 k ([] : List Int) 7 b0 b1 b2) else (intrusionref06_Bytes.l2 k ([] : List Int) 3 b0 b1 b2)
theorem intrusionref06_Bytes.mono_l : ∀ k, (∀ y0 y1 y2 y3 y4, LeO (intrusionref06_Bytes.l0 k y0 y1 y2 y3 y4) (intrusionref06_Bytes.l0 (k + 1) y0 y1 y2 y3 y4)) ∧ (∀ y0 y1 y2 y3 y4, LeO (intrusionref06_Bytes.l1 k y0 y1 y2 y3 y4) (intrusionref06_Bytes.l1 (k + 1) y0 y1 y2 y3 y4)) ∧ (∀ y0 y1 y2 y3 y4, LeO (intrusionref06_Bytes.l2 k y0 y1 y2 y3 y4) (intrusionref06_Bytes.l2 (k + 1) y0 y1 y2 y3 y4))
 | 0 => ⟨fun _ _ _ _ _ r h => by simp [intrusionref06_Bytes.l0] at h, fun _ _ _ _ _ r h => by simp [intrusionref06_Bytes.l1] at h, fun _ _ _ _ _ r h => by simp [intrusionref06_Bytes.l2] at h⟩
 | k + 1 => by
  obtain ⟨ih0, ih1, ih2⟩ := intrusionref06_Bytes.mono_l k
  refine ⟨?_, ?_, ?_⟩
  ·intro y0 y1 y2 y3 y4
   unfold intrusionref06_Bytes.l0
   repeat' first | with_reducible first | apply ih0 | apply ih1 | apply ih2 | apply LeO.refl | apply LeO.none | refine LeO.ite ?_ ?_ | refine LeO.bind ?_ (fun _ => ?_)
  ·intro y0 y1 y2 y3 y4
   unfold intrusionref06_Bytes.l1
   repeat' first | with_reducible first | apply ih0 | apply ih1 | apply ih2 | apply LeO.refl | apply LeO.none | refine LeO.ite ?_ ?_ | refine LeO.bind ?_ (fun _ => ?_)
  intro y0 y1 y2 y3 y4
  unfold intrusionref06_Bytes.l2
  repeat' first | with_reducible first | apply ih0 | apply ih1 | apply ih2 | apply LeO.refl | apply LeO.none | refine LeO.ite ?_ ?_ | refine LeO.bind ?_ (fun _ => ?_)
theorem intrusionref06_Bytes.mono : ∀ a0 a1 a2 k, LeO (intrusionref06_Bytes.f k a0 a1 a2) (intrusionref06_Bytes.f (k + 1) a0 a1 a2) := by
 intro a0 a1 a2 k
 obtain ⟨ih0, ih1, ih2⟩ := intrusionref06_Bytes.mono_l k
 unfold intrusionref06_Bytes.f
 repeat' first | with_reducible first | apply ih0 | apply ih1 | apply ih2 | apply LeO.refl | apply LeO.none | refine LeO.ite ?_ ?_ | refine LeO.bind ?_ (fun _ => ?_)
set_option maxHeartbeats 8000000 in
set_option maxRecDepth 100000 in
theorem intrusionref06_Bytes.calls (k : Nat) (b0 : Bool) (b1 : Int) (b2 : Int) (r : ByteArray) (w : World) (h : intrusionref06_Bytes.f k b0 b1 b2 = some r) :
  Calls Try.prog 45 #[.agg #[.bool b0, .int .u64 b1, .int .u64 b2]] w fun e w' => e = .returned (.string r) ∧ Below w.heap.size w w' := by
 have hu25 := Try.underlying25
 have HB := As (Below.refl w.heap.size w)
 have H : (if b0 = true then (intrusionref06_Bytes.l0 k ([] : List Int) 7 b0 b1 b2) else (intrusionref06_Bytes.l2 k ([] : List Int) 3 b0 b1 b2)) = some r := h
 clear h
 by_cases c2 : b0 = true
 ·subst c2
  rw [if_pos rfl] at H
  have H' := As H
  clear H
  go_enter Try.func45, Try.ntmps45
  go_wp2_with (first | ((with_reducible refine gate_dst (N := 1) rfl ?_); refine box_event rfl (N := 1) rfl (cs := #[.bool true, .int .u64 b1, .int .u64 b2]) (t := 25) kG ?_; intro gb404 hg w3 hbox hb; have BK404 := As (hbox); have GW404 := As (gS hg (below_size (kB HB.out))); have GE404 := As (gS hg (below_size (kB HB.out))); replace HB := As (below_step (kB HB.out) hb); clear hb hbox hg; have hcz4_0 := cells_3 BK404.out; have hfz4_0 := fun j_ => blk_frozen BK404.out j_))
  go_loopg [3, 4] k (fun kq v3 v4 w' => ∃ (x3_1 : List Int) (x4_1 : Int), v4 = .int .i64 x4_1 ∧ Aside0 (intrusionref06_Bytes.l0 kq x3_1 x4_1 true b1 b2 = some r) ∧ Aside0 (kq ≤ k) ∧ Aside0 (Kd.R (Kd.int .u8) 5 w' w.heap.size (fun _ => True) v3 x3_1) ∧ Aside0 (w'.heap[gb404]? = some (.cells #[.bool true, .int .u64 b1, .int .u64 b2] 25 (0, 0))) ∧ Aside0 (Below w.heap.size w w'))
  case atStart => exact ⟨(([] : List Int)), (7), kS, H', ⟨Nat.le_refl _⟩, ⟨by first | exact Kd.R_nil _ _ _ _ _ | exact Kd.N_nil _ _ _ _ _ | exact Kd.V_nil _ _ _ _ _ | exact Kd.Q_nil _ _ _ _ _ | exact Kd.S_nil _ _ _ _ _⟩, ⟨kb BK404.out⟩, ⟨kB1 HB.out GE404.out⟩⟩
  clear H'
  try clear c2
  try clear hcz4_0
  try clear hfz4_0
  obtain ⟨x3_1, x4_1, rfl, HA, HK1, HO_3, BK404, HB⟩ := hrel
  cases gk with
  | zero => exact absurd HA.out (by simp [intrusionref06_Bytes.l0])
  | succ k1 =>
   have H := HA.out
   clear HA
   simp only [intrusionref06_Bytes.l0] at H
   by_cases c5 : x4_1 ≥ 0
   ·rw [if_pos c5] at H
    have c5b0 : decide (0 ≤ x4_1) = true := decide_eq_true c5
    clear c5
    obtain ⟨ji6, hji6⟩ : ∃ j_ : Int, (IntKind.u64.wrap (wrap64 (8 * x4_1))) = j_ := ⟨_, rfl⟩
    replace H : (if 0 ≤ (ji6) then (if x3_1.length < 140737488355328 then (intrusionref06_Bytes.l0 k1 (x3_1 ++ [(shr .u64 b1 (ji6)) % 256]) (wrap64 (x4_1 - 1)) true b1 b2) else (none)) else (none)) = some r := by first | (rw [hji6] at H; exact H) | (simp only [hji6] at H ⊢; exact H)
    replace H := iS H
    obtain ⟨c7, H⟩ := H
    have c7b0 := eq_true c7
    have c7b1 := decide_eq_true c7
    clear c7
    obtain ⟨ji8, hji8⟩ : ∃ j_ : Int, (shr .u64 b1 (ji6)) = j_ := ⟨_, rfl⟩
    replace H : (if x3_1.length < 140737488355328 then (intrusionref06_Bytes.l0 k1 (x3_1 ++ [(ji8) % 256]) (wrap64 (x4_1 - 1)) true b1 b2) else (none)) = some r := by first | (rw [hji8] at H; exact H) | (simp only [hji8] at H ⊢; exact H)
    have hji8_ : (b1 / 2 ^ min (ji6).toNat 64) = ji8 := hji8
    have hji8z : (ji6) ≤ 64 → (b1 / 2 ^ (ji6).toNat) = ji8 := shr_small hji8
    replace H := iS H
    obtain ⟨c9, H⟩ := H
    have LMc9 := As c9
    clear c9
    obtain ⟨y405, hy405⟩ : ∃ y_ : List Int, y_ = (x3_1 ++ [(ji8) % 256]) := ⟨_, rfl⟩
    replace H : (intrusionref06_Bytes.l0 k1 y405 (wrap64 (x4_1 - 1)) true b1 b2) = some r := by first | (rw [hy405]; with_reducible exact H) | (have H2_ := (Option.bind_some _ _).symm.trans H; rw [hy405]; with_reducible exact H2_) | (have H2_ := (Option.bind_some _ _).symm.trans H; with_reducible exact H2_) | with_reducible exact H | (rw [hy405]; exact H) | exact H
    have Ny405 := As hy405
    clear hy405
    have H' := As H
    clear H
    have hcz10_0 := cells_3 BK404.out
    have hfz10_0 := fun j_ => blk_frozen BK404.out j_
    go_wp2_with (first | ((with_reducible refine gate_builtin (b := .append) (xs := #[.tmp 13, .tmp 21]) rfl ?_); at_builtin; refine Kd.R_append (Kd.int .u8) (w0 := w) w.heap.size rfl (.tmp 13) (.tmp 21) 46 5 (.int .u8 0) 1 rfl Try.underlying46 info5 rfl (by decide) (by omega) u3 x3_1 ((ji8) % 256) [.int .u8 ((ji8) % 256)] (fun _ => True) (fun _ => False) rfl rfl ?aP (fun _ hk => hk.elim) ?aF ?aO ?aB ?aS ?aL ?_; (case aP => exact rfl); (case aB => exact (kB1 HB.out GE404.out)); (case aF => exact (fun _ _ => trivial)); (case aO => exact (kR HO_3.out)); (case aS => exact (below_size (kB1 HB.out GE404.out))); (case aL => have := LMc9.out; omega); intro v406 w11 ho hb hg hat; rw [← Ny405.out] at ho; replace BK404 := As (blk_grown (kb BK404.out) hg (Kd.R_ne HO_3.out BK404.out (by decide))); replace HB := As (hb); have HO407 := As (ho); clear HO_3; clear ho hb hg hat))
    go_roundg k1
    case measure => have := HK1.out; omega
    case rel => exact ⟨(y405), (wrap64 (x4_1 - 1)), kS, H', ⟨by have := HK1.out; omega⟩, ⟨by (with_reducible repeat (first | apply Kd.R_alloc | apply Kd.R_drewN | apply Kd.R_drew)); exact HO407.out⟩, ⟨kb BK404.out⟩, ⟨kB1 HB.out GE404.out⟩⟩
   rw [if_neg c5] at H
   have c5b0 : decide (0 ≤ x4_1) = false := decide_eq_false c5
   clear c5
   have H' := As H
   clear H
   go_wp2
   go_loopg [3, 5] k1 (fun kq v3 v5 w' => ∃ (x3_2 : List Int) (x5_2 : Int), v5 = .int .i64 x5_2 ∧ Aside0 (intrusionref06_Bytes.l1 kq x3_2 x5_2 true b1 b2 = some r) ∧ Aside0 (kq ≤ k1) ∧ Aside0 (Kd.R (Kd.int .u8) 5 w' w.heap.size (fun _ => True) v3 x3_2) ∧ Aside0 (w'.heap[gb404]? = some (.cells #[.bool true, .int .u64 b1, .int .u64 b2] 25 (0, 0))) ∧ Aside0 (Below w.heap.size w w'))
   case atStart => exact ⟨(x3_1), (7), kS, H', ⟨Nat.le_refl _⟩, ⟨by (with_reducible repeat (first | apply Kd.R_alloc | apply Kd.R_drewN | apply Kd.R_drew)); exact HO_3.out⟩, ⟨kb BK404.out⟩, ⟨kB1 HB.out GE404.out⟩⟩
   clear H'
   try clear c5
   try clear c5b0
   obtain ⟨x3_2, x5_2, rfl, HA, HK2, HO_3, BK404, HB⟩ := hrel
   cases gk with
   | zero => exact absurd HA.out (by simp [intrusionref06_Bytes.l1])
   | succ k2 =>
    have H := HA.out
    clear HA
    simp only [intrusionref06_Bytes.l1] at H
    by_cases c12 : x5_2 ≥ 0
    ·rw [if_pos c12] at H
     have c12b0 : decide (0 ≤ x5_2) = true := decide_eq_true c12
     clear c12
     obtain ⟨ji13, hji13⟩ : ∃ j_ : Int, (IntKind.u64.wrap (wrap64 (8 * x5_2))) = j_ := ⟨_, rfl⟩
     replace H : (if 0 ≤ (ji13) then (if x3_2.length < 140737488355328 then (intrusionref06_Bytes.l1 k2 (x3_2 ++ [(shr .u64 b2 (ji13)) % 256]) (wrap64 (x5_2 - 1)) true b1 b2) else (none)) else (none)) = some r := by first | (rw [hji13] at H; exact H) | (simp only [hji13] at H ⊢; exact H)
     replace H := iS H
     obtain ⟨c14, H⟩ := H
     have c14b0 := eq_true c14
     have c14b1 := decide_eq_true c14
     clear c14
     obtain ⟨ji15, hji15⟩ : ∃ j_ : Int, (shr .u64 b2 (ji13)) = j_ := ⟨_, rfl⟩
     replace H : (if x3_2.length < 140737488355328 then (intrusionref06_Bytes.l1 k2 (x3_2 ++ [(ji15) % 256]) (wrap64 (x5_2 - 1)) true b1 b2) else (none)) = some r := by first | (rw [hji15] at H; exact H) | (simp only [hji15] at H ⊢; exact H)
     have hji15_ : (b2 / 2 ^ min (ji13).toNat 64) = ji15 := hji15
     have hji15z : (ji13) ≤ 64 → (b2 / 2 ^ (ji13).toNat) = ji15 := shr_small hji15
     replace H := iS H
     obtain ⟨c16, H⟩ := H
     have LMc16 := As c16
     clear c16
     obtain ⟨y408, hy408⟩ : ∃ y_ : List Int, y_ = (x3_2 ++ [(ji15) % 256]) := ⟨_, rfl⟩
     replace H : (intrusionref06_Bytes.l1 k2 y408 (wrap64 (x5_2 - 1)) true b1 b2) = some r := by first | (rw [hy408]; with_reducible exact H) | (have H2_ := (Option.bind_some _ _).symm.trans H; rw [hy408]; with_reducible exact H2_) | (have H2_ := (Option.bind_some _ _).symm.trans H; with_reducible exact H2_) | with_reducible exact H | (rw [hy408]; exact H) | exact H
     have Ny408 := As hy408
     clear hy408
     have H' := As H
     clear H
     have hcz17_0 := cells_3 BK404.out
     have hfz17_0 := fun j_ => blk_frozen BK404.out j_
     go_wp2_with (first | ((with_reducible refine gate_builtin (b := .append) (xs := #[.tmp 27, .tmp 35]) rfl ?_); at_builtin; refine Kd.R_append (Kd.int .u8) (w0 := w) w.heap.size rfl (.tmp 27) (.tmp 35) 46 5 (.int .u8 0) 1 rfl Try.underlying46 info5 rfl (by decide) (by omega) u3 x3_2 ((ji15) % 256) [.int .u8 ((ji15) % 256)] (fun _ => True) (fun _ => False) rfl rfl ?aP (fun _ hk => hk.elim) ?aF ?aO ?aB ?aS ?aL ?_; (case aP => exact rfl); (case aB => exact (kB1 HB.out GE404.out)); (case aF => exact (fun _ _ => trivial)); (case aO => exact (kR HO_3.out)); (case aS => exact (below_size (kB1 HB.out GE404.out))); (case aL => have := LMc16.out; omega); intro v409 w18 ho hb hg hat; rw [← Ny408.out] at ho; replace BK404 := As (blk_grown (kb BK404.out) hg (Kd.R_ne HO_3.out BK404.out (by decide))); replace HB := As (hb); have HO410 := As (ho); clear HO_3; clear ho hb hg hat))
     go_roundg k2
     case measure => have := HK1.out; have := HK2.out; omega
     case rel => exact ⟨(y408), (wrap64 (x5_2 - 1)), kS, H', ⟨by have := HK1.out; have := HK2.out; omega⟩, ⟨by (with_reducible repeat (first | apply Kd.R_alloc | apply Kd.R_drewN | apply Kd.R_drew)); exact HO410.out⟩, ⟨kb BK404.out⟩, ⟨kB1 HB.out GE404.out⟩⟩
    rw [if_neg c12] at H
    have c12b0 : decide (0 ≤ x5_2) = false := decide_eq_false c12
    clear c12
    obtain rfl := Option.some.inj H
    have hcv19 := own_string (P := Try.prog) Try.underlying46 Try.underlying5 Try.underlying9 (Kd.own_of_R HO_3.out)
    go_wp2
    go_ret
    exact ⟨kE, by exact kB1 HB.out GE404.out⟩
 replace c2 := Bool.eq_false_iff.mpr c2
 subst c2
 rw [if_neg (show ¬ (false = true) by decide)] at H
 have H' := As H
 clear H
 go_enter Try.func45, Try.ntmps45
 go_wp2_with (first | ((with_reducible refine gate_dst (N := 1) rfl ?_); refine box_event rfl (N := 1) rfl (cs := #[.bool false, .int .u64 b1, .int .u64 b2]) (t := 25) kG ?_; intro gb404 hg w20 hbox hb; have BK404 := As (hbox); have GW404 := As (gS hg (below_size (kB HB.out))); have GE404 := As (gS hg (below_size (kB HB.out))); replace HB := As (below_step (kB HB.out) hb); clear hb hbox hg; have hcz21_0 := cells_3 BK404.out; have hfz21_0 := fun j_ => blk_frozen BK404.out j_))
 go_loopg [3, 6] k (fun kq v3 v6 w' => ∃ (x3_1 : List Int) (x6_1 : Int), v6 = .int .i64 x6_1 ∧ Aside0 (intrusionref06_Bytes.l2 kq x3_1 x6_1 false b1 b2 = some r) ∧ Aside0 (kq ≤ k) ∧ Aside0 (Kd.R (Kd.int .u8) 5 w' w.heap.size (fun _ => True) v3 x3_1) ∧ Aside0 (w'.heap[gb404]? = some (.cells #[.bool false, .int .u64 b1, .int .u64 b2] 25 (0, 0))) ∧ Aside0 (Below w.heap.size w w'))
 case atStart => exact ⟨(([] : List Int)), (3), kS, H', ⟨Nat.le_refl _⟩, ⟨by first | exact Kd.R_nil _ _ _ _ _ | exact Kd.N_nil _ _ _ _ _ | exact Kd.V_nil _ _ _ _ _ | exact Kd.Q_nil _ _ _ _ _ | exact Kd.S_nil _ _ _ _ _⟩, ⟨kb BK404.out⟩, ⟨kB1 HB.out GE404.out⟩⟩
 clear H'
 try clear c2
 try clear hcz21_0
 try clear hfz21_0
 obtain ⟨x3_1, x6_1, rfl, HA, HK1, HO_3, BK404, HB⟩ := hrel
 cases gk with
 | zero => exact absurd HA.out (by simp [intrusionref06_Bytes.l2])
 | succ k1 =>
  have H := HA.out
  clear HA
  simp only [intrusionref06_Bytes.l2] at H
  by_cases c22 : x6_1 ≥ 0
  ·rw [if_pos c22] at H
   have c22b0 : decide (0 ≤ x6_1) = true := decide_eq_true c22
   clear c22
   obtain ⟨ji23, hji23⟩ : ∃ j_ : Int, (IntKind.u64.wrap (wrap64 (8 * x6_1))) = j_ := ⟨_, rfl⟩
   replace H : (if 0 ≤ (ji23) then (if x3_1.length < 140737488355328 then (intrusionref06_Bytes.l2 k1 (x3_1 ++ [(shr .u64 b2 (ji23)) % 256]) (wrap64 (x6_1 - 1)) false b1 b2) else (none)) else (none)) = some r := by first | (rw [hji23] at H; exact H) | (simp only [hji23] at H ⊢; exact H)
   replace H := iS H
   obtain ⟨c24, H⟩ := H
   have c24b0 := eq_true c24
   have c24b1 := decide_eq_true c24
   clear c24
   obtain ⟨ji25, hji25⟩ : ∃ j_ : Int, (shr .u64 b2 (ji23)) = j_ := ⟨_, rfl⟩
   replace H : (if x3_1.length < 140737488355328 then (intrusionref06_Bytes.l2 k1 (x3_1 ++ [(ji25) % 256]) (wrap64 (x6_1 - 1)) false b1 b2) else (none)) = some r := by first | (rw [hji25] at H; exact H) | (simp only [hji25] at H ⊢; exact H)
   have hji25_ : (b2 / 2 ^ min (ji23).toNat 64) = ji25 := hji25
   have hji25z : (ji23) ≤ 64 → (b2 / 2 ^ (ji23).toNat) = ji25 := shr_small hji25
   replace H := iS H
   obtain ⟨c26, H⟩ := H
   have LMc26 := As c26
   clear c26
   obtain ⟨y411, hy411⟩ : ∃ y_ : List Int, y_ = (x3_1 ++ [(ji25) % 256]) := ⟨_, rfl⟩
   replace H : (intrusionref06_Bytes.l2 k1 y411 (wrap64 (x6_1 - 1)) false b1 b2) = some r := by first | (rw [hy411]; with_reducible exact H) | (have H2_ := (Option.bind_some _ _).symm.trans H; rw [hy411]; with_reducible exact H2_) | (have H2_ := (Option.bind_some _ _).symm.trans H; with_reducible exact H2_) | with_reducible exact H | (rw [hy411]; exact H) | exact H
   have Ny411 := As hy411
   clear hy411
   have H' := As H
   clear H
   have hcz27_0 := cells_3 BK404.out
   have hfz27_0 := fun j_ => blk_frozen BK404.out j_
   go_wp2_with (first | ((with_reducible refine gate_builtin (b := .append) (xs := #[.tmp 43, .tmp 51]) rfl ?_); at_builtin; refine Kd.R_append (Kd.int .u8) (w0 := w) w.heap.size rfl (.tmp 43) (.tmp 51) 46 5 (.int .u8 0) 1 rfl Try.underlying46 info5 rfl (by decide) (by omega) u3 x3_1 ((ji25) % 256) [.int .u8 ((ji25) % 256)] (fun _ => True) (fun _ => False) rfl rfl ?aP (fun _ hk => hk.elim) ?aF ?aO ?aB ?aS ?aL ?_; (case aP => exact rfl); (case aB => exact (kB1 HB.out GE404.out)); (case aF => exact (fun _ _ => trivial)); (case aO => exact (kR HO_3.out)); (case aS => exact (below_size (kB1 HB.out GE404.out))); (case aL => have := LMc26.out; omega); intro v412 w28 ho hb hg hat; rw [← Ny411.out] at ho; replace BK404 := As (blk_grown (kb BK404.out) hg (Kd.R_ne HO_3.out BK404.out (by decide))); replace HB := As (hb); have HO413 := As (ho); clear HO_3; clear ho hb hg hat))
   go_roundg k1
   case measure => have := HK1.out; omega
   case rel => exact ⟨(y411), (wrap64 (x6_1 - 1)), kS, H', ⟨by have := HK1.out; omega⟩, ⟨by (with_reducible repeat (first | apply Kd.R_alloc | apply Kd.R_drewN | apply Kd.R_drew)); exact HO413.out⟩, ⟨kb BK404.out⟩, ⟨kB1 HB.out GE404.out⟩⟩
  rw [if_neg c22] at H
  have c22b0 : decide (0 ≤ x6_1) = false := decide_eq_false c22
  clear c22
  obtain rfl := Option.some.inj H
  have hcv29 := own_string (P := Try.prog) Try.underlying46 Try.underlying5 Try.underlying9 (Kd.own_of_R HO_3.out)
  go_wp2
  go_ret
  exact ⟨kE, by exact kB1 HB.out GE404.out⟩

end Go.Proofs.Ytobioaommmgehaa.Z
-- short
-- short2
