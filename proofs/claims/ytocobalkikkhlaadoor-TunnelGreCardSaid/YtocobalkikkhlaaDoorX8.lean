/- Functions and their walks, printed by xprint.py. -/
import Derived.Test.YtocobalkikkhlaaDoorX0
import Derived.Test.YtocobalkikkhlaaDoorX7
namespace Go.Proofs.YtocobalkikkhlaaDoor.X
open Go.RowKit Go.Proofs.YtocobalkikkhlaaDoorW.PrintWords Go.Proofs.YtocobalkikkhlaaDoorW.PrintLast Go.Proofs.YtocobalkikkhlaaDoorW.PrintMore
attribute [local go_sem] max2_int min2_int max_two min_two max_three min_three max_four min_four   -- for this text's walks alone
set_option linter.unusedVariables false
set_option linter.unusedSimpArgs false

/-! ### intrusionref01_Put: function 31 -/
mutual
def intrusionref01_Put.j0 : Nat → Int → Int → Bool → Option (ByteArray)
 | 0, _, _, _ => none
 | k + 1, x0, x1, x20 => if x20 = true then (some (⟨#[]⟩ : ByteArray)) else (if x1 = 1 then (some (strOfNums (([(x0) % 256] : List Int)))) else ((intrusionref01_Put.f k (wrap64 (Int.tdiv x0 256)) (wrap64 (x1 - 1))).bind fun t252 => ((some (([(Int.tmod x0 256) % 256] : List Int) : List Int)).bind fun y253 => (if t252.size + (strOfNums y253).size ≤ 9223372036854775807 then (some (t252 ++ (strOfNums y253))) else (none)))))
def intrusionref01_Put.f : Nat → Int → Int → Option (ByteArray)
 | 0, _, _ => none
 | k + 1, a0, a1 => if a1 < 1 then (intrusionref01_Put.j0 k a0 a1 true) else (if a1 > 7 then (intrusionref01_Put.j0 k a0 a1 true) else (if a0 < 0 then (intrusionref01_Put.j0 k a0 a1 true) else ((intrusionref01_Power.f k a1).bind fun t248 => (intrusionref01_Put.j0 k a0 a1 (decide (a0 ≥ t248))))))
end
theorem intrusionref01_Put.mono_l : ∀ k, (∀ y0 y1, LeO (intrusionref01_Put.f k y0 y1) (intrusionref01_Put.f (k + 1) y0 y1)) ∧ (∀ y0 y1 y2, LeO (intrusionref01_Put.j0 k y0 y1 y2) (intrusionref01_Put.j0 (k + 1) y0 y1 y2))
 | 0 => ⟨fun _ _ r h => by simp [intrusionref01_Put.f] at h, fun _ _ _ r h => by simp [intrusionref01_Put.j0] at h⟩
 | k + 1 => by
  obtain ⟨ih0, ih1⟩ := intrusionref01_Put.mono_l k
  refine ⟨?_, ?_⟩
  ·intro y0 y1
   unfold intrusionref01_Put.f
   repeat' first | with_reducible first | apply ih0 | apply ih1 | apply intrusionref01_Power.mono | apply LeO.refl | apply LeO.none | refine LeO.ite ?_ ?_ | refine LeO.bind ?_ (fun _ => ?_)
  intro y0 y1 y2
  unfold intrusionref01_Put.j0
  repeat' first | with_reducible first | apply ih0 | apply ih1 | apply intrusionref01_Power.mono | apply LeO.refl | apply LeO.none | refine LeO.ite ?_ ?_ | refine LeO.bind ?_ (fun _ => ?_)
theorem intrusionref01_Put.mono : ∀ a0 a1 k, LeO (intrusionref01_Put.f k a0 a1) (intrusionref01_Put.f (k + 1) a0 a1) := by
 intro a0 a1 k
 obtain ⟨ih0, ih1⟩ := intrusionref01_Put.mono_l k
 exact ih0 a0 a1
def intrusionref01_Put.T5 : Bool × List (List Nat × List Nat) := (true, [([], []), ([0], [0]), ([], []), ([2], [2]), ([1, 3], [1, 3]), ([], []), ([5], [5]), ([6], [6]), ([7], [7]), ([8], [8]), ([4, 9], [4, 9]), ([10, 4, 0, 1, 2, 3, 4, 5, 6, 7, 8, 9, 10], [10])])
def intrusionref01_Put.B5 : List Nat := [0, 1, 0, 4, 15, 0, 32, 96, 224, 480, 1023, 2047]
theorem intrusionref01_Put.tab5 : rtab .any (opsOf Tryd.f31 5) = intrusionref01_Put.T5 := by kernel_rfl
theorem intrusionref01_Put.bits5 : waitsOk intrusionref01_Put.T5.2 intrusionref01_Put.B5 = true := by kernel_rfl
set_option maxHeartbeats 8000000 in
set_option maxRecDepth 100000 in
theorem intrusionref01_Put.calls (k : Nat) : ∀ (a0 : Int) (a1 : Int) (r : ByteArray) (w : World) (h : intrusionref01_Put.f k a0 a1 = some r),
  Calls Tryd.prog 31 #[.int .i64 a0, .int .i64 a1] w fun e w' => e = .returned (.string r) ∧ Below w.heap.size w w' := by
 induction k using Nat.strongRecOn with
 | _ k ih =>
 intro a0 a1 r w h
 cases k with
 | zero => exact absurd h (by simp [intrusionref01_Put.f])
 | succ k =>
 simp only [intrusionref01_Put.f] at h
 have HB := As (Below.refl w.heap.size w)
 have H : (if a1 < 1 then (intrusionref01_Put.j0 k a0 a1 true) else (if a1 > 7 then (intrusionref01_Put.j0 k a0 a1 true) else (if a0 < 0 then (intrusionref01_Put.j0 k a0 a1 true) else ((intrusionref01_Power.f k a1).bind fun t248 => (intrusionref01_Put.j0 k a0 a1 (decide (a0 ≥ t248))))))) = some r := h
 clear h
 have HC3 := As H
 clear H
 go_enter Tryd.func31, Tryd.ntmps31
 go_upto_region 1 with (fail)
 go_cut [20] (fun v20 wc => ∃ (kq : Nat) (x20_2 : Bool), v20 = .bool x20_2 ∧ Aside0 (intrusionref01_Put.j0 kq a0 a1 x20_2 = some r) ∧ Aside0 (kq ≤ k) ∧ Aside0 (Below w.heap.size w wc))
 case first =>
  have H := HC3.out
  clear HC3
  by_cases c4 : a1 < 1
  ·rw [if_pos c4] at H
   have c4b0 : decide (a1 < 1) = true := decide_eq_true c4
   clear c4
   (first | rw [c4b0] | (simp only [i64_w, i32_w]; rw [c4b0]) | skip)
   have H' := As H
   clear H
   go_wp2
   go_meet
   case rel => exact ⟨_, (true), kS, H', ⟨by first | omega | exact Nat.le_refl _⟩, ⟨kB HB.out⟩⟩
  rw [if_neg c4] at H
  have c4b0 : decide (a1 < 1) = false := decide_eq_false c4
  clear c4
  (first | rw [c4b0] | (simp only [i64_w, i32_w]; rw [c4b0]) | skip)
  by_cases c5 : a1 > 7
  ·rw [if_pos c5] at H
   have c5b0 : decide (7 < a1) = true := decide_eq_true c5
   clear c5
   have H' := As H
   clear H
   go_wp2
   go_meet
   case rel => exact ⟨_, (true), kS, H', ⟨by first | omega | exact Nat.le_refl _⟩, ⟨kB HB.out⟩⟩
  rw [if_neg c5] at H
  have c5b0 : decide (7 < a1) = false := decide_eq_false c5
  clear c5
  by_cases c6 : a0 < 0
  ·rw [if_pos c6] at H
   have c6b0 : decide (a0 < 0) = true := decide_eq_true c6
   clear c6
   have H' := As H
   clear H
   go_wp2
   go_meet
   case rel => exact ⟨_, (true), kS, H', ⟨by first | omega | exact Nat.le_refl _⟩, ⟨kB HB.out⟩⟩
  rw [if_neg c6] at H
  have c6b0 : decide (a0 < 0) = false := decide_eq_false c6
  clear c6
  replace H := bS H
  obtain ⟨t248, A7, H⟩ := H
  have H' := As H
  clear H
  go_wp2_with (first | (go_at_call 57; (with_reducible refine (intrusionref01_Power.calls k a1 t248 _ A7.out).mono ?_); rintro e w' ⟨rfl, ⟨nd, rfl⟩⟩))
  go_meet
  case rel => exact ⟨_, (decide (a0 ≥ t248)), kS, H', ⟨by first | omega | exact Nat.le_refl _⟩, ⟨kB HB.out⟩⟩
 clear HC3
 obtain ⟨kq, x20_2, rfl, HA, HJ2, HB⟩ := hcut
 cases kq with
 | zero => exact absurd HA.out (by simp [intrusionref01_Put.j0])
 | succ kj2 =>
  have H := HA.out
  clear HA
  simp only [intrusionref01_Put.j0] at H
  by_cases c8 : x20_2 = true
  ·subst c8
   rw [if_pos rfl] at H
   obtain rfl := Option.some.inj H
   go_wp2
   go_ret
   exact ⟨kE, by exact kB HB.out⟩
  replace c8 := Bool.eq_false_iff.mpr c8
  subst c8
  rw [if_neg (show ¬ (false = true) by decide)] at H
  by_cases c9 : a1 = 1
  ·rw [if_pos c9] at H
   have c9b0 : (a1 == 1) = true := beq_iff_eq.mpr c9
   have c9b1 : (a1 != 1) = false := bne_eq_false_iff_eq.mpr c9
   clear c9
   obtain ⟨y249, hy249⟩ : ∃ y_ : List Int, y_ = (([(a0) % 256] : List Int)) := ⟨_, rfl⟩
   replace H : (some (strOfNums y249)) = some r := by first | (rw [hy249]; with_reducible exact H) | (have H2_ := (Option.bind_some _ _).symm.trans H; rw [hy249]; with_reducible exact H2_) | (have H2_ := (Option.bind_some _ _).symm.trans H; with_reducible exact H2_) | with_reducible exact H | (rw [hy249]; exact H) | exact H
   have Ny249 := As hy249
   clear hy249
   obtain rfl := Option.some.inj H
   go_wp2_with (first | ((with_reducible refine gate_dst (N := 25) rfl ?_); refine Kd.R_lit (Kd.int .u8) _ 5 rfl (N := 25) rfl (xs := ([(a0) % 256] : List Int)) (inner := [.int .u8 ((a0) % 256)]) (ok := fun _ => True) (okp := fun _ => True) kG ?hp (fun _ hk => hk) trivial (Below.refl _ _) (Nat.le_refl _) (by simp) ?_; (case hp => exact (Reps.one (show Kd.M (Kd.int .u8) _ _ _ ((a0) % 256) [.int .u8 ((a0) % 256)] from rfl) (Reps.none _ _))); intro v250 w10 ho11 hb hg_ hnew_; clear hg_ hnew_; (first | rw [← Ny249.out] at ho11 | (simp only [Int.reduceToNat] at ho11; rw [← Ny249.out] at ho11)); have HO251 := As (Kd.R_lower ho11 (below_size (kB HB.out))); replace HB := As (below_step (kB HB.out) hb); clear hb ho11; have hcv12 := own_string (P := Tryd.prog) Tryd.underlying47 Tryd.underlying5 Tryd.underlying9 (Kd.own_of_R HO251.out)))
   go_ret
   exact ⟨kE, by exact kB HB.out⟩
  rw [if_neg c9] at H
  have c9b0 : (a1 == 1) = false := beq_eq_false_iff_ne.mpr c9
  have c9b1 : (a1 != 1) = true := bne_iff_ne.mpr c9
  replace H := bS H
  obtain ⟨t252, A13, H⟩ := H
  replace H := yS H
  obtain ⟨y253, Ny253, H⟩ := H
  replace H := iS H
  obtain ⟨c14, H⟩ := H
  have c14b0 := eq_true c14
  have c14b1 := decide_eq_true c14
  try have c14b2 := eq_false (Nat.not_lt.2 c14)
  obtain rfl := Option.some.inj H
  try go_wp2
  replace HB := As (below_drew1 HB.out)
  refine start_ (n := 12) (S := fun w' => True) (ds := []) #[O, O, O, O, O, O, O, O, O, O, O, O] (by kernel_rfl) rfl rfl trivial (fun hHeld => ?_); refine with_tabW intrusionref01_Put.tab5 intrusionref01_Put.bits5 (fun HT_ HW_ => ?_)
  generalize wc.drew = w15 at HB hHeld ⊢
  refine kP 0 27 #[I, O, O, O, O, O, O, O, O, O, O, O] ?_ (any_of HT_.out (by kernel_rfl))
  refine kP 1 28 #[I, I, O, O, O, O, O, O, O, O, O, O] ?_ (any_of HT_.out (by kernel_rfl))
  refine kP 2 29 #[I, I, I, O, O, O, O, O, O, O, O, O] ?_ (any_of HT_.out (by kernel_rfl))
  refine kP 3 30 #[I, I, I, I, O, O, O, O, O, O, O, O] ?_ (any_of HT_.out (by kernel_rfl))
  refine kP 5 32 #[I, I, I, I, O, I, O, O, O, O, O, O] ?_ (any_of HT_.out (by kernel_rfl))
  refine kP 6 33 #[I, I, I, I, O, I, I, O, O, O, O, O] ?_ (any_of HT_.out (by kernel_rfl))
  refine kP 7 34 #[I, I, I, I, O, I, I, I, O, O, O, O] ?_ (any_of HT_.out (by kernel_rfl))
  refine join_ (σ := Value) 2 #[I, I, I, I, I, I, I, I, I, I, O, O] (fun s_ => [(31, .string t252), (35, s_), (36, .string (strOfNums y253))]) (fun s_ w' => (Kd.R (Kd.int .u8) 5 w' w.heap.size (fun _ => True) s_ y253) ∧ (Below w.heap.size w w')) ?_ ?_
  rotate_left
  ·intro hCont
   refine two_ (i := 4) (j := 8) (Ni := some 31) (Nj := some 35) #[I, I, I, I, I, I, I, I, O, O, O, O] #[I, I, I, I, O, I, I, I, I, O, O, O] rfl rfl rfl rfl (two_of HT_.out (by kernel_rfl)) (by decide) (by decide) (fun K hK => ?_) (fun K hK => ?_)
   ·skip
    refine goes_ Tryd.func31 (by kernel_rfl) rfl #[.int .i64 (wrap64 (Int.tdiv a0 256)), .int .i64 (wrap64 (a1 - 1))] (by rfl) rfl rfl kA ?_
    with_reducible refine (ih kj2 (by have := HJ2.out; omega) (wrap64 (Int.tdiv a0 256)) (wrap64 (a1 - 1)) t252 _ A13.out).mono ?_
    rintro e w16 ⟨rfl, hb⟩
    refine ⟨_, rfl, ?_⟩
    replace HB := As (below_step (kB HB.out) hb)
    (try clear hb)
    (try clear hb2)
    (try clear hk)
    (try clear hi)
    refine hK.out _ _ trivial (fun hHeld => ?_)
    clear hK K
    refine nP ?_
    refine one_ (i := 8) (N := some 35) #[I, I, I, I, I, I, I, I, I, O, O, O] rfl rfl (one_of HT_.out (by kernel_rfl)) (by decide) (fun K hK => ?_)
    refine Kd.R_lit_step (Kd.int .u8) _ 5 rfl (N := 35) rfl (xs := ([(Int.tmod a0 256) % 256] : List Int)) (inner := [.int .u8 ((Int.tmod a0 256) % 256)]) (ok := fun _ => True) (okp := fun _ => True) kG ?hp (fun _ hk => hk) trivial (Below.refl _ _) (Nat.le_refl _) (by simp) ?_; (case hp => exact (Reps.one (show Kd.M (Kd.int .u8) _ _ _ ((Int.tmod a0 256) % 256) [.int .u8 ((Int.tmod a0 256) % 256)] from rfl) (Reps.none _ _)))
    intro v254 w17 ho18 hb hg_ hnew_
    clear hg_ hnew_
    (first | rw [← Ny253.out] at ho18 | (simp only [Int.reduceToNat] at ho18; rw [← Ny253.out] at ho18))
    have HO255 := As (Kd.R_lower ho18 (below_size (kB HB.out)))
    replace HB := As (below_step (kB HB.out) hb)
    clear hb ho18
    refine hK.out _ _ trivial (fun hHeld => ?_)
    clear hK K
    refine nP ?_
    refine one_ (i := 9) (N := some 36) #[I, I, I, I, I, I, I, I, I, I, O, O] rfl rfl (one_of HT_.out (by kernel_rfl)) (by decide) (fun K hK => ?_)
    have hcv19 := own_string (P := Tryd.prog) Tryd.underlying47 Tryd.underlying5 Tryd.underlying9 (Kd.own_of_R HO255.out)
    refine value_ (w1 := ?_) (v := ?_) (by rfl) rfl ?_ ?_
    rotate_left 2
    ·go_simp
     constructor
     ·rfl
     rfl
    clear hcv19
    refine hK.out _ _ trivial (fun hHeld => ?_)
    clear hK K
    refine nP ?_
    exact norm_ (by simp only [putAll, Act.put, sA, sZ, sS]) (hCont (v254) _ ⟨(kR HO255.out), (kB HB.out)⟩)
   skip
   refine Kd.R_lit_step (Kd.int .u8) _ 5 rfl (N := 35) rfl (xs := ([(Int.tmod a0 256) % 256] : List Int)) (inner := [.int .u8 ((Int.tmod a0 256) % 256)]) (ok := fun _ => True) (okp := fun _ => True) kG ?hp (fun _ hk => hk) trivial (Below.refl _ _) (Nat.le_refl _) (by simp) ?_; (case hp => exact (Reps.one (show Kd.M (Kd.int .u8) _ _ _ ((Int.tmod a0 256) % 256) [.int .u8 ((Int.tmod a0 256) % 256)] from rfl) (Reps.none _ _)))
   intro v254 w16 ho17 hb hg_ hnew_
   clear hg_ hnew_
   (first | rw [← Ny253.out] at ho17 | (simp only [Int.reduceToNat] at ho17; rw [← Ny253.out] at ho17))
   have HO255 := As (Kd.R_lower ho17 (below_size (kB HB.out)))
   replace HB := As (below_step (kB HB.out) hb)
   clear hb ho17
   refine hK.out _ _ trivial (fun hHeld => ?_)
   clear hK K
   refine nP ?_
   refine two_ (i := 4) (j := 9) (Ni := some 31) (Nj := some 36) #[I, I, I, I, I, I, I, I, I, O, O, O] #[I, I, I, I, O, I, I, I, I, I, O, O] rfl rfl rfl rfl (two_of HT_.out (by kernel_rfl)) (by decide) (by decide) (fun K hK => ?_) (fun K hK => ?_)
   ·skip
    refine goes_ Tryd.func31 (by kernel_rfl) rfl #[.int .i64 (wrap64 (Int.tdiv a0 256)), .int .i64 (wrap64 (a1 - 1))] (by rfl) rfl rfl kA ?_
    with_reducible refine (ih kj2 (by have := HJ2.out; omega) (wrap64 (Int.tdiv a0 256)) (wrap64 (a1 - 1)) t252 _ A13.out).mono ?_
    rintro e w18 ⟨rfl, hb⟩
    refine ⟨_, rfl, ?_⟩
    replace HO255 := As (Kd.R_below (kR HO255.out) hb)
    replace HB := As (below_step (kB HB.out) hb)
    (try clear hb)
    (try clear hb2)
    (try clear hk)
    (try clear hi)
    refine hK.out _ _ trivial (fun hHeld => ?_)
    clear hK K
    refine nP ?_
    refine one_ (i := 9) (N := some 36) #[I, I, I, I, I, I, I, I, I, I, O, O] rfl rfl (one_of HT_.out (by kernel_rfl)) (by decide) (fun K hK => ?_)
    have hcv19 := own_string (P := Tryd.prog) Tryd.underlying47 Tryd.underlying5 Tryd.underlying9 (Kd.own_of_R HO255.out)
    refine value_ (w1 := ?_) (v := ?_) (by rfl) rfl ?_ ?_
    rotate_left 2
    ·go_simp
     constructor
     ·rfl
     rfl
    clear hcv19
    refine hK.out _ _ trivial (fun hHeld => ?_)
    clear hK K
    refine nP ?_
    exact norm_ (by simp only [putAll, Act.put, sA, sZ, sS]) (hCont (v254) _ ⟨(kR HO255.out), (kB HB.out)⟩)
   skip
   have hcv18 := own_string (P := Tryd.prog) Tryd.underlying47 Tryd.underlying5 Tryd.underlying9 (Kd.own_of_R HO255.out)
   refine value_ (w1 := ?_) (v := ?_) (by rfl) rfl ?_ ?_
   rotate_left 2
   ·go_simp
    constructor
    ·rfl
    rfl
   clear hcv18
   refine hK.out _ _ trivial (fun hHeld => ?_)
   clear hK K
   refine nP ?_
   refine one_ (i := 4) (N := some 31) #[I, I, I, I, I, I, I, I, I, I, O, O] rfl rfl (one_of HT_.out (by kernel_rfl)) (by decide) (fun K hK => ?_)
   refine goes_ Tryd.func31 (by kernel_rfl) rfl #[.int .i64 (wrap64 (Int.tdiv a0 256)), .int .i64 (wrap64 (a1 - 1))] (by rfl) rfl rfl kA ?_
   with_reducible refine (ih kj2 (by have := HJ2.out; omega) (wrap64 (Int.tdiv a0 256)) (wrap64 (a1 - 1)) t252 _ A13.out).mono ?_
   rintro e w19 ⟨rfl, hb⟩
   refine ⟨_, rfl, ?_⟩
   replace HO255 := As (Kd.R_below (kR HO255.out) hb)
   replace HB := As (below_step (kB HB.out) hb)
   (try clear hb)
   (try clear hb2)
   (try clear hk)
   (try clear hi)
   refine hK.out _ _ trivial (fun hHeld => ?_)
   clear hK K
   refine nP ?_
   exact norm_ (by simp only [putAll, Act.put, sA, sZ, sS]) (hCont (v254) _ ⟨(kR HO255.out), (kB HB.out)⟩)
  rintro v254 w20 ⟨h0_, h1_⟩
  have n0_ : Aside0 (Kd.R (Kd.int .u8) 5 w20 w.heap.size (fun _ => True) v254 y253) := ⟨h0_⟩
  have n1_ : Aside0 (Below w.heap.size w w20) := ⟨h1_⟩
  clear HB
  clear h0_ h1_
  have HO255 := n0_
  have HB := n1_
  clear n0_ n1_
  have hHeld := trivial
  refine norm_ (a' := ?_) ?_ ?_
  rotate_left
  ·simp only [putAll, Act.put, sA, sZ, sS]
   rfl
  refine kP 10 37 #[I, I, I, I, I, I, I, I, I, I, I, O] ?_ (any_of HT_.out (by kernel_rfl))
  refine kP 11 4 #[I, I, I, I, I, I, I, I, I, I, I, I] ?_ (any_of HT_.out (by kernel_rfl))
  refine done_ (done_of HT_.out (by kernel_rfl)) ?_
  try go_wp2
  go_ret
  exact ⟨kE, by exact kB HB.out⟩

/-! ### intrusionref17_made: function 32 -/
def intrusionref17_made.f (a0_0 : Bool) (a0_1 : Int) (a0_2 : Int) (a1_0 : Bool) (a1_1 : Int) (a1_2 : Int) (a2 : Int) (a3 : ByteArray) : Option (Bool × Int × Int × Bool × Int × Int × Int × Int × ByteArray × Int) := if (a3.size : Int) > 65000 then (some (false, 0, 0, false, 0, 0, 0, 0, (⟨#[]⟩ : ByteArray), 3)) else (some (a0_0, a0_1, a0_2, a1_0, a1_1, a1_2, a2, 64, a3, 0))
set_option maxHeartbeats 8000000 in
set_option maxRecDepth 100000 in
theorem intrusionref17_made.calls (a0_0 : Bool) (a0_1 : Int) (a0_2 : Int) (a1_0 : Bool) (a1_1 : Int) (a1_2 : Int) (a2 : Int) (a3 : ByteArray) (r1 : Bool) (r2 : Int) (r3 : Int) (r4 : Bool) (r5 : Int) (r6 : Int) (r7 : Int) (r8 : Int) (r9 : ByteArray) (r10 : Int) (w : World) (h : intrusionref17_made.f a0_0 a0_1 a0_2 a1_0 a1_1 a1_2 a2 a3 = some (r1, r2, r3, r4, r5, r6, r7, r8, r9, r10)) :
  Calls Tryd.prog 32 #[.agg #[.bool a0_0, .int .u64 a0_1, .int .u64 a0_2], .agg #[.bool a1_0, .int .u64 a1_1, .int .u64 a1_2], .int .i64 a2, .string a3] w fun e w' => e = .returned (.tuple #[.agg #[.bool r1, .int .u64 r2, .int .u64 r3, .bool r4, .int .u64 r5, .int .u64 r6, .int .i64 r7, .int .i64 r8, .string r9], .int .i64 r10]) ∧ Below w.heap.size w w' := by
 have hu24 := Tryd.underlying24
 have hu30 := Tryd.underlying30
 have HB := As (Below.refl w.heap.size w)
 have H : (if (a3.size : Int) > 65000 then (some (false, 0, 0, false, 0, 0, 0, 0, (⟨#[]⟩ : ByteArray), 3)) else (some (a0_0, a0_1, a0_2, a1_0, a1_1, a1_2, a2, 64, a3, 0))) = some (r1, r2, r3, r4, r5, r6, r7, r8, r9, r10) := h
 clear h
 by_cases c5 : (a3.size : Int) > 65000
 ·rw [if_pos c5] at H
  have c5b0 : decide (65000 < (a3.size : Int)) = true := decide_eq_true c5
  have c5b1 : decide (65000 < a3.size) = true := decide_eq_true (by omega)
  clear c5
  simp only [Option.some.injEq, Prod.mk.injEq] at H
  obtain ⟨rfl, rfl, rfl, rfl, rfl, rfl, rfl, rfl, rfl, rfl⟩ := H
  go_enter Tryd.func32, Tryd.ntmps32
  go_wp2_with (first | ((with_reducible refine gate_dst (N := 4) rfl ?_); refine box_event rfl (N := 4) rfl (cs := #[.bool a0_0, .int .u64 a0_1, .int .u64 a0_2]) (t := 24) kG ?_; intro gb256 hg w6 hbox hb; have BK256 := As (hbox); have GW256 := As ((by rw [hg]; exact (below_size (kB HB.out)) : w.heap.size ≤ gb256)); have GE256 := As ((by rw [hg]; exact (below_size (kB HB.out)) : w.heap.size ≤ gb256)); replace HB := As (below_step (kB HB.out) hb); clear hb hbox hg) | ((with_reducible refine gate_dst (N := 5) rfl ?_); refine box_event rfl (N := 5) rfl (cs := #[.bool a1_0, .int .u64 a1_1, .int .u64 a1_2]) (t := 24) kG ?_; intro gb257 hg w7 hbox hb; have BK257 := As (hbox); have GW257 := As ((by rw [hg]; exact (below_size (kB1 HB.out GE256.out)) : w.heap.size ≤ gb257)); have GE257 := As ((by rw [hg]; exact (below_size (kB1 HB.out GE256.out)) : w.heap.size ≤ gb257)); replace HB := As (below_step (kB1 HB.out GE256.out) hb); have NB256_257 := As ((by rw [hg]; exact Nat.ne_of_lt (blk_lt (kb BK256.out)) : gb256 ≠ gb257)); have NB257_256 := As ((by rw [hg]; exact Nat.ne_of_gt (blk_lt (kb BK256.out)) : gb257 ≠ gb256)); replace BK256 := As (blk_below (kb BK256.out) hb); clear hb hbox hg) | ((with_reducible refine gate_dst (N := 8) rfl ?_); refine box_event rfl (N := 8) rfl (cs := #[.bool false, .int .u64 0, .int .u64 0, .bool false, .int .u64 0, .int .u64 0, .int .i64 0, .int .i64 0, .string (⟨#[]⟩ : ByteArray)]) (t := 30) kG ?_; intro gb258 hg w8 hbox hb; have BK258 := As (hbox); have GW258 := As ((by rw [hg]; exact (below_size (kB2 HB.out GE256.out GE257.out)) : w.heap.size ≤ gb258)); have GE258 := As ((by rw [hg]; exact (below_size (kB2 HB.out GE256.out GE257.out)) : w.heap.size ≤ gb258)); replace HB := As (below_step (kB2 HB.out GE256.out GE257.out) hb); have NB256_258 := As ((by rw [hg]; exact Nat.ne_of_lt (blk_lt (kb BK256.out)) : gb256 ≠ gb258)); have NB258_256 := As ((by rw [hg]; exact Nat.ne_of_gt (blk_lt (kb BK256.out)) : gb258 ≠ gb256)); replace BK256 := As (blk_below (kb BK256.out) hb); have NB257_258 := As ((by rw [hg]; exact Nat.ne_of_lt (blk_lt (kb BK257.out)) : gb257 ≠ gb258)); have NB258_257 := As ((by rw [hg]; exact Nat.ne_of_gt (blk_lt (kb BK257.out)) : gb258 ≠ gb257)); replace BK257 := As (blk_below (kb BK257.out) hb); clear hb hbox hg) | ((with_reducible refine gate_store (t := 30) (p := 8) rfl ?_); refine store_rowev_9 gb258 (.bool false) (.int .u64 0) (.int .u64 0) (.bool false) (.int .u64 0) (.int .u64 0) (.int .i64 0) (.int .i64 0) (.string (⟨#[]⟩ : ByteArray)) rfl (t := 30) (p := 8) (v := _) rfl rfl rfl rfl (t' := 30) (kb BK258.out) (by rfl) (by kernel_rfl) (by rfl) ?_))
  refine bodyPost_ret (results_ct rfl _ _ gb258 30 #[.bool false, .int .u64 0, .int .u64 0, .bool false, .int .u64 0, .int .u64 0, .int .i64 0, .int .i64 0, .string (⟨#[]⟩ : ByteArray)] (0, 0) _ rfl (by refine kb ?_; exact blk_all_9 (kb BK258.out) (by rfl)) Tryd.underlying30 rfl (by kernel_rfl)) rfl ?_
  exact ⟨kE, by exact kB3 HB.out GE256.out GE257.out GE258.out⟩
 rw [if_neg c5] at H
 have c5b0 : decide (65000 < (a3.size : Int)) = false := decide_eq_false c5
 have c5b1 : decide (65000 < a3.size) = false := decide_eq_false (by omega)
 clear c5
 simp only [Option.some.injEq, Prod.mk.injEq] at H
 obtain ⟨rfl, rfl, rfl, rfl, rfl, rfl, rfl, rfl, rfl, rfl⟩ := H
 go_enter Tryd.func32, Tryd.ntmps32
 go_wp2_with (first | ((with_reducible refine gate_dst (N := 4) rfl ?_); refine box_event rfl (N := 4) rfl (cs := #[.bool a0_0, .int .u64 a0_1, .int .u64 a0_2]) (t := 24) kG ?_; intro gb256 hg w9 hbox hb; have BK256 := As (hbox); have GW256 := As ((by rw [hg]; exact (below_size (kB HB.out)) : w.heap.size ≤ gb256)); have GE256 := As ((by rw [hg]; exact (below_size (kB HB.out)) : w.heap.size ≤ gb256)); replace HB := As (below_step (kB HB.out) hb); clear hb hbox hg) | ((with_reducible refine gate_dst (N := 5) rfl ?_); refine box_event rfl (N := 5) rfl (cs := #[.bool a1_0, .int .u64 a1_1, .int .u64 a1_2]) (t := 24) kG ?_; intro gb257 hg w10 hbox hb; have BK257 := As (hbox); have GW257 := As ((by rw [hg]; exact (below_size (kB1 HB.out GE256.out)) : w.heap.size ≤ gb257)); have GE257 := As ((by rw [hg]; exact (below_size (kB1 HB.out GE256.out)) : w.heap.size ≤ gb257)); replace HB := As (below_step (kB1 HB.out GE256.out) hb); have NB256_257 := As ((by rw [hg]; exact Nat.ne_of_lt (blk_lt (kb BK256.out)) : gb256 ≠ gb257)); have NB257_256 := As ((by rw [hg]; exact Nat.ne_of_gt (blk_lt (kb BK256.out)) : gb257 ≠ gb256)); replace BK256 := As (blk_below (kb BK256.out) hb); clear hb hbox hg) | ((with_reducible refine gate_dst (N := 8) rfl ?_); refine box_event rfl (N := 8) rfl (cs := #[.bool false, .int .u64 0, .int .u64 0, .bool false, .int .u64 0, .int .u64 0, .int .i64 0, .int .i64 0, .string (⟨#[]⟩ : ByteArray)]) (t := 30) kG ?_; intro gb258 hg w11 hbox hb; have BK258 := As (hbox); have GW258 := As ((by rw [hg]; exact (below_size (kB2 HB.out GE256.out GE257.out)) : w.heap.size ≤ gb258)); have GE258 := As ((by rw [hg]; exact (below_size (kB2 HB.out GE256.out GE257.out)) : w.heap.size ≤ gb258)); replace HB := As (below_step (kB2 HB.out GE256.out GE257.out) hb); have NB256_258 := As ((by rw [hg]; exact Nat.ne_of_lt (blk_lt (kb BK256.out)) : gb256 ≠ gb258)); have NB258_256 := As ((by rw [hg]; exact Nat.ne_of_gt (blk_lt (kb BK256.out)) : gb258 ≠ gb256)); replace BK256 := As (blk_below (kb BK256.out) hb); have NB257_258 := As ((by rw [hg]; exact Nat.ne_of_lt (blk_lt (kb BK257.out)) : gb257 ≠ gb258)); have NB258_257 := As ((by rw [hg]; exact Nat.ne_of_gt (blk_lt (kb BK257.out)) : gb258 ≠ gb257)); replace BK257 := As (blk_below (kb BK257.out) hb); clear hb hbox hg; have hnb12 := NB256_257.out; have hnc12 := NB257_256.out; have hnb13 := NB256_258.out; have hnc13 := NB258_256.out; have hcz14_0 := cells_3 BK256.out; have hfz14_0 := fun j_ => blk_frozen BK256.out j_; have hnb15 := NB257_258.out; have hnc15 := NB258_257.out; have hcz16_0 := cells_3 BK257.out; have hfz16_0 := fun j_ => blk_frozen BK257.out j_) | ((with_reducible refine gate_store (t := 30) (p := 8) rfl ?_); refine store_rowev_9 gb258 (.bool a0_0) (.int .u64 a0_1) (.int .u64 a0_2) (.bool a1_0) (.int .u64 a1_1) (.int .u64 a1_2) (.int .i64 a2) (.int .i64 64) (.string a3) rfl (t := 30) (p := 8) (v := _) rfl rfl rfl rfl (t' := 30) (kb BK258.out) (by rfl) (by kernel_rfl) (by rfl) ?_))
 refine bodyPost_ret (results_ct rfl _ _ gb258 30 #[.bool a0_0, .int .u64 a0_1, .int .u64 a0_2, .bool a1_0, .int .u64 a1_1, .int .u64 a1_2, .int .i64 a2, .int .i64 64, .string a3] (0, 0) _ rfl (by refine kb ?_; exact blk_all_9 (kb BK258.out) (by rfl)) Tryd.underlying30 rfl (by kernel_rfl)) rfl ?_
 exact ⟨kE, by exact kB3 HB.out GE256.out GE257.out GE258.out⟩

/-! ### intrusionref17_typeOf: function 33 -/
def intrusionref17_typeOf.f (a0 : Int) : Option (Int) := if a0 = 1 then (some 2048) else (if a0 = 2 then (some 34525) else (some 25944))
set_option maxHeartbeats 8000000 in
set_option maxRecDepth 100000 in
theorem intrusionref17_typeOf.calls (a0 : Int) (r : Int) (w : World) (h : intrusionref17_typeOf.f a0 = some r) :
  Calls Tryd.prog 33 #[.int .i64 a0] w fun e w' => e = .returned (.int .i64 r) ∧ Drawn0 w w' := by
 have H : (if a0 = 1 then (some 2048) else (if a0 = 2 then (some 34525) else (some 25944))) = some r := h
 clear h
 by_cases c2 : a0 = 1
 ·rw [if_pos c2] at H
  have c2b0 : (a0 == 1) = true := beq_iff_eq.mpr c2
  have c2b1 : (a0 != 1) = false := bne_eq_false_iff_eq.mpr c2
  clear c2
  obtain rfl := Option.some.inj H
  go_enter Tryd.func33, Tryd.ntmps33
  go_wp2
  go_ret
  exact ⟨by first | rfl | (simp; done) | (simp [*]; done), by repeat (first | exact Drawn0.refl _ | apply Drawn0.step)⟩
 rw [if_neg c2] at H
 have c2b0 : (a0 == 1) = false := beq_eq_false_iff_ne.mpr c2
 have c2b1 : (a0 != 1) = true := bne_iff_ne.mpr c2
 by_cases c3 : a0 = 2
 ·rw [if_pos c3] at H
  have c3b0 : (a0 == 2) = true := beq_iff_eq.mpr c3
  have c3b1 : (a0 != 2) = false := bne_eq_false_iff_eq.mpr c3
  clear c3
  obtain rfl := Option.some.inj H
  go_enter Tryd.func33, Tryd.ntmps33
  go_wp2
  go_ret
  exact ⟨by first | rfl | (simp; done) | (simp [*]; done), by repeat (first | exact Drawn0.refl _ | apply Drawn0.step)⟩
 rw [if_neg c3] at H
 have c3b0 : (a0 == 2) = false := beq_eq_false_iff_ne.mpr c3
 have c3b1 : (a0 != 2) = true := bne_iff_ne.mpr c3
 obtain rfl := Option.some.inj H
 go_enter Tryd.func33, Tryd.ntmps33
 go_wp2
 go_ret
 exact ⟨by first | rfl | (simp; done) | (simp [*]; done), by repeat (first | exact Drawn0.refl _ | apply Drawn0.step)⟩

/-! ### intrusionref02_Add: function 58 -/
def intrusionref02_Add.f (a0 : Int) (a1 : Int) : Option (Int) := if (wrap64 ((Go.bits .and .i64 a0 65535) + (Go.bits .and .i64 a1 65535))) > 65535 then (some (wrap64 ((wrap64 ((Go.bits .and .i64 a0 65535) + (Go.bits .and .i64 a1 65535))) - 65535))) else (some (wrap64 ((Go.bits .and .i64 a0 65535) + (Go.bits .and .i64 a1 65535))))
set_option maxHeartbeats 8000000 in
set_option maxRecDepth 100000 in
theorem intrusionref02_Add.calls (a0 : Int) (a1 : Int) (r : Int) (w : World) (h : intrusionref02_Add.f a0 a1 = some r) :
  Calls Tryd.prog 58 #[.int .i64 a0, .int .i64 a1] w fun e w' => e = .returned (.int .i64 r) ∧ Drawn0 w w' := by
 have H : (if (wrap64 ((Go.bits .and .i64 a0 65535) + (Go.bits .and .i64 a1 65535))) > 65535 then (some (wrap64 ((wrap64 ((Go.bits .and .i64 a0 65535) + (Go.bits .and .i64 a1 65535))) - 65535))) else (some (wrap64 ((Go.bits .and .i64 a0 65535) + (Go.bits .and .i64 a1 65535))))) = some r := h
 clear h
 by_cases c3 : (wrap64 ((Go.bits .and .i64 a0 65535) + (Go.bits .and .i64 a1 65535))) > 65535
 ·rw [if_pos c3] at H
  have c3b0 : decide (65535 < (wrap64 ((Go.bits .and .i64 a0 65535) + (Go.bits .and .i64 a1 65535)))) = true := decide_eq_true c3
  clear c3
  obtain rfl := Option.some.inj H
  go_enter Tryd.func58, Tryd.ntmps58
  go_wp2
  go_ret
  exact ⟨by first | rfl | (simp; done) | (simp [*]; done), by repeat (first | exact Drawn0.refl _ | apply Drawn0.step)⟩
 rw [if_neg c3] at H
 have c3b0 : decide (65535 < (wrap64 ((Go.bits .and .i64 a0 65535) + (Go.bits .and .i64 a1 65535)))) = false := decide_eq_false c3
 clear c3
 obtain rfl := Option.some.inj H
 go_enter Tryd.func58, Tryd.ntmps58
 go_wp2
 go_ret
 exact ⟨by first | rfl | (simp; done) | (simp [*]; done), by repeat (first | exact Drawn0.refl _ | apply Drawn0.step)⟩

/-! ### intrusionref02_Sum: function 34 -/
def intrusionref02_Sum.l0 : Nat → ByteArray → Int → Int → Option (Int)
 | 0, _, _, _ => none
 | k + 1, x0, x3, x4 => if x4 < (x0.size : Int) then (if 0 ≤ x4 then (if (wrap64 (x4 + 1)) < (x0.size : Int) then (if 0 ≤ (wrap64 (x4 + 1)) then ((intrusionref02_Add.f x3 (wrap64 ((wrap64 ((wrap64 (bt x0 x4)) * 256)) + (wrap64 (bt x0 (wrap64 (x4 + 1))))))).bind fun t259 => (intrusionref02_Sum.l0 k x0 t259 (wrap64 (x4 + 2)))) else (none)) else ((intrusionref02_Add.f x3 (wrap64 ((wrap64 (bt x0 x4)) * 256))).bind fun t260 => (intrusionref02_Sum.l0 k x0 t260 (wrap64 (x4 + 2))))) else (none)) else (some (wrap64 (65535 - x3)))
def intrusionref02_Sum.f (k : Nat) (a0 : ByteArray) : Option (Int) := intrusionref02_Sum.l0 k a0 0 0
theorem intrusionref02_Sum.mono_l : ∀ k, (∀ y0 y1 y2, LeO (intrusionref02_Sum.l0 k y0 y1 y2) (intrusionref02_Sum.l0 (k + 1) y0 y1 y2))
 | 0 => fun _ _ _ r h => by simp [intrusionref02_Sum.l0] at h
 | k + 1 => by
  have ih0 := intrusionref02_Sum.mono_l k
  intro y0 y1 y2
  unfold intrusionref02_Sum.l0
  repeat' first | with_reducible first | apply ih0 | apply LeO.refl | apply LeO.none | refine LeO.ite ?_ ?_ | refine LeO.bind ?_ (fun _ => ?_)
theorem intrusionref02_Sum.mono : ∀ a0 k, LeO (intrusionref02_Sum.f k a0) (intrusionref02_Sum.f (k + 1) a0) := by
 intro a0 k
 have ih0 := intrusionref02_Sum.mono_l k
 unfold intrusionref02_Sum.f
 repeat' first | with_reducible first | apply ih0 | apply LeO.refl | apply LeO.none | refine LeO.ite ?_ ?_ | refine LeO.bind ?_ (fun _ => ?_)
set_option maxHeartbeats 8000000 in
set_option maxRecDepth 100000 in
theorem intrusionref02_Sum.calls (k : Nat) (a0 : ByteArray) (r : Int) (w : World) (h : intrusionref02_Sum.f k a0 = some r) :
  Calls Tryd.prog 34 #[.string a0] w fun e w' => e = .returned (.int .i64 r) ∧ Drawn0 w w' := by
 have H : (intrusionref02_Sum.l0 k a0 0 0) = some r := h
 clear h
 have H' := As H
 clear H
 go_enter Tryd.func34, Tryd.ntmps34
 go_wp2
 go_loopg [3, 4] k (fun kq v3 v4 w' => ∃ (x3_1 : Int) (x4_1 : Int), v3 = .int .i64 x3_1 ∧ v4 = .int .i64 x4_1 ∧ Aside0 (intrusionref02_Sum.l0 kq a0 x3_1 x4_1 = some r) ∧ Aside0 (kq ≤ k) ∧ Drawn0 w w')
 case atStart => exact ⟨(0), (0), kS, kS, H', ⟨Nat.le_refl _⟩, by repeat (first | exact Drawn0.refl _ | apply Drawn0.step)⟩
 clear H'
 obtain ⟨x3_1, x4_1, rfl, rfl, HA, HK1, ⟨m1, rfl⟩⟩ := hrel
 cases gk with
 | zero => exact absurd HA.out (by simp [intrusionref02_Sum.l0])
 | succ k1 =>
  have H := HA.out
  clear HA
  simp only [intrusionref02_Sum.l0] at H
  by_cases c2 : x4_1 < (a0.size : Int)
  ·rw [if_pos c2] at H
   have c2b0 : decide (x4_1 < (a0.size : Int)) = true := decide_eq_true c2
   clear c2
   replace H := iS H
   obtain ⟨c3, H⟩ := H
   have c3b0 := decide_eq_true c3
   clear c3
   by_cases c5 : (wrap64 (x4_1 + 1)) < (a0.size : Int)
   ·rw [if_pos c5] at H
    have c5b0 : decide ((wrap64 (x4_1 + 1)) < (a0.size : Int)) = true := decide_eq_true c5
    clear c5
    obtain ⟨ji6, hji6⟩ : ∃ j_ : Int, (wrap64 (x4_1 + 1)) = j_ := ⟨_, rfl⟩
    replace H : (if 0 ≤ (ji6) then ((intrusionref02_Add.f x3_1 (wrap64 ((wrap64 ((wrap64 (bt a0 x4_1)) * 256)) + (wrap64 (bt a0 (ji6)))))).bind fun t259 => (intrusionref02_Sum.l0 k1 a0 t259 (wrap64 (x4_1 + 2)))) else (none)) = some r := by first | (rw [hji6] at H; exact H) | (simp only [hji6] at H ⊢; exact H)
    (try rw [hji6] at c5b0)
    have hji6w : (IntKind.i64.wrap (x4_1 + 1)) = ji6 := (i64_w _).trans hji6
    replace H := iS H
    obtain ⟨c7, H⟩ := H
    have c7b0 := decide_eq_true c7
    clear c7
    replace H := bS H
    obtain ⟨t259, A9, H⟩ := H
    have H' := As H
    clear H
    have p4 : 0 ≤ (x4_1 : Int) := of_decide_eq_true (by first | (with_reducible assumption) | assumption)
    have q4 : x4_1 < (a0.size : Int) := of_decide_eq_true (by first | (with_reducible assumption) | assumption)
    have hx4 := bt_at a0 x4_1
    replace p4 := eq_true p4
    replace q4 := eq_true q4
    have p8 : 0 ≤ ((ji6) : Int) := of_decide_eq_true (by first | (with_reducible assumption) | assumption)
    have q8 : (ji6) < (a0.size : Int) := of_decide_eq_true (by first | (with_reducible assumption) | assumption)
    have hx8 := bt_at a0 (ji6)
    replace p8 := eq_true p8
    replace q8 := eq_true q8
    go_wp2_with (first | ((with_reducible refine gate_callee (f := 58) rfl ?_); refine goesL_ (some 31) rfl rfl Tryd.func58 (by kernel_rfl) rfl #[.int .i64 x3_1, .int .i64 (wrap64 ((wrap64 ((wrap64 (bt a0 x4_1)) * 256)) + (wrap64 (bt a0 (ji6)))))] rfl (by (try simp only [List.map_toArray, List.map_cons, List.map_nil]); first | done | (simp only [hji6]; rfl) | rfl | (simp only [List.length_drop, List.length_take]; rfl)) ?_; (with_reducible refine (intrusionref02_Add.calls x3_1 (wrap64 ((wrap64 ((wrap64 (bt a0 x4_1)) * 256)) + (wrap64 (bt a0 (ji6))))) t259 _ A9.out).mono ?_); rintro e w' ⟨rfl, ⟨nd, rfl⟩⟩; refine ⟨_, rfl, ?_⟩))
    go_roundg k1
    case measure => have := HK1.out; omega
    case rel => exact ⟨(t259), (wrap64 (x4_1 + 2)), kS, kS, H', ⟨by have := HK1.out; omega⟩, by repeat (first | exact Drawn0.refl _ | apply Drawn0.step)⟩
   rw [if_neg c5] at H
   have c5b0 : decide ((wrap64 (x4_1 + 1)) < (a0.size : Int)) = false := decide_eq_false c5
   clear c5
   replace H := bS H
   obtain ⟨t260, A10, H⟩ := H
   have H' := As H
   clear H
   have p4 : 0 ≤ (x4_1 : Int) := of_decide_eq_true (by first | (with_reducible assumption) | assumption)
   have q4 : x4_1 < (a0.size : Int) := of_decide_eq_true (by first | (with_reducible assumption) | assumption)
   have hx4 := bt_at a0 x4_1
   replace p4 := eq_true p4
   replace q4 := eq_true q4
   go_wp2_with (first | ((with_reducible refine gate_callee (f := 58) rfl ?_); refine goesL_ (some 31) rfl rfl Tryd.func58 (by kernel_rfl) rfl #[.int .i64 x3_1, .int .i64 (wrap64 ((wrap64 (bt a0 x4_1)) * 256))] rfl kA ?_; (with_reducible refine (intrusionref02_Add.calls x3_1 (wrap64 ((wrap64 (bt a0 x4_1)) * 256)) t260 _ A10.out).mono ?_); rintro e w' ⟨rfl, ⟨nd, rfl⟩⟩; refine ⟨_, rfl, ?_⟩))
   go_roundg k1
   case measure => have := HK1.out; omega
   case rel => exact ⟨(t260), (wrap64 (x4_1 + 2)), kS, kS, H', ⟨by have := HK1.out; omega⟩, by repeat (first | exact Drawn0.refl _ | apply Drawn0.step)⟩
  rw [if_neg c2] at H
  have c2b0 : decide (x4_1 < (a0.size : Int)) = false := decide_eq_false c2
  clear c2
  obtain rfl := Option.some.inj H
  go_wp2
  go_ret
  exact ⟨by first | rfl | (simp; done) | (simp [*]; done), by repeat (first | exact Drawn0.refl _ | apply Drawn0.step)⟩

end Go.Proofs.YtocobalkikkhlaaDoor.X
-- short
-- short2
