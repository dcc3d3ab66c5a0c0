/- Functions and their walks, printed by xprint.py. -/
import Derived.Test.YtobioaommmgehaaX0
namespace Go.Proofs.Ytobioaommmgehaa.X
open Go.RowKit Go.Proofs.YtobioaommmgehaaW.PrintWords Go.Proofs.YtobioaommmgehaaW.PrintLast Go.Proofs.YtobioaommmgehaaW.PrintMore
attribute [local go_sem] max2_int min2_int max_two min_two max_three min_three max_four min_four   -- for this text's walks alone
set_option linter.unusedVariables false
set_option linter.unusedSimpArgs false

/-! ### intrusionref06_FromBytes: function 33 -/
mutual
def intrusionref06_FromBytes.j0 : Nat → ByteArray → Bool → Option (Bool × Int × Int × Int)
 | 0, _, _ => none
 | k + 1, x0, x13 => if x13 = true then (some (false, 0, 0, 2)) else (intrusionref06_FromBytes.l0 k x0 0 ((x0.size : Int) == 16) 0 0)
def intrusionref06_FromBytes.l0 : Nat → ByteArray → Int → Bool → Int → Int → Option (Bool × Int × Int × Int)
 | 0, _, _, _, _, _ => none
 | k + 1, x0, x5, x392000, x392001, x392002 => if x5 < (x0.size : Int) then (if x392000 = true then (if x5 < 8 then (if 0 ≤ x5 then (intrusionref06_FromBytes.l0 k x0 (wrap64 (x5 + 1)) x392000 (Go.bits .or .u64 (IntKind.u64.wrap (x392001 * 256)) (IntKind.u64.wrap (bt x0 x5))) x392002) else (none)) else (if 0 ≤ x5 then (intrusionref06_FromBytes.l0 k x0 (wrap64 (x5 + 1)) x392000 x392001 (Go.bits .or .u64 (IntKind.u64.wrap (x392002 * 256)) (IntKind.u64.wrap (bt x0 x5)))) else (none))) else (if 0 ≤ x5 then (intrusionref06_FromBytes.l0 k x0 (wrap64 (x5 + 1)) x392000 x392001 (Go.bits .or .u64 (IntKind.u64.wrap (x392002 * 256)) (IntKind.u64.wrap (bt x0 x5)))) else (none))) else (some (x392000, x392001, x392002, 0))
end
def intrusionref06_FromBytes.f (k : Nat) (a0 : ByteArray) : Option (Bool × Int × Int × Int) := if (a0.size : Int) = 4 then (intrusionref06_FromBytes.j0 k a0 false) else (intrusionref06_FromBytes.j0 k a0 ((a0.size : Int) != 16))
theorem intrusionref06_FromBytes.mono_l : ∀ k, (∀ y0 y1, LeO (intrusionref06_FromBytes.j0 k y0 y1) (intrusionref06_FromBytes.j0 (k + 1) y0 y1)) ∧ (∀ y0 y1 y2 y3 y4, LeO (intrusionref06_FromBytes.l0 k y0 y1 y2 y3 y4) (intrusionref06_FromBytes.l0 (k + 1) y0 y1 y2 y3 y4))
 | 0 => ⟨fun _ _ r h => by simp [intrusionref06_FromBytes.j0] at h, fun _ _ _ _ _ r h => by simp [intrusionref06_FromBytes.l0] at h⟩
 | k + 1 => by
  obtain ⟨ih0, ih1⟩ := intrusionref06_FromBytes.mono_l k
  refine ⟨?_, ?_⟩
  ·intro y0 y1
   unfold intrusionref06_FromBytes.j0
   repeat' first | with_reducible first | apply ih0 | apply ih1 | apply LeO.refl | apply LeO.none | refine LeO.ite ?_ ?_ | refine LeO.bind ?_ (fun _ => ?_)
  intro y0 y1 y2 y3 y4
  unfold intrusionref06_FromBytes.l0
  repeat' first | with_reducible first | apply ih0 | apply ih1 | apply LeO.refl | apply LeO.none | refine LeO.ite ?_ ?_ | refine LeO.bind ?_ (fun _ => ?_)
theorem intrusionref06_FromBytes.mono : ∀ a0 k, LeO (intrusionref06_FromBytes.f k a0) (intrusionref06_FromBytes.f (k + 1) a0) := by
 intro a0 k
 obtain ⟨ih0, ih1⟩ := intrusionref06_FromBytes.mono_l k
 unfold intrusionref06_FromBytes.f
 repeat' first | with_reducible first | apply ih0 | apply ih1 | apply LeO.refl | apply LeO.none | refine LeO.ite ?_ ?_ | refine LeO.bind ?_ (fun _ => ?_)
def intrusionref06_FromBytes.T8 : Bool × List (List Nat × List Nat) := (true, [([], []), ([0], [0]), ([1], [1]), ([], []), ([], []), ([3, 4], [3, 4]), ([5], [5]), ([2, 6], [2, 6]), ([0, 1, 2, 3, 4, 5, 6, 7], []), ([8, 7, 0, 1, 2, 3, 4, 5, 6, 7], [7, 8])])
def intrusionref06_FromBytes.B8 : List Nat := [0, 1, 3, 0, 0, 24, 56, 127, 255, 511]
theorem intrusionref06_FromBytes.tab8 : rtab .any (opsOf Try.f33 8) = intrusionref06_FromBytes.T8 := by kernel_rfl
theorem intrusionref06_FromBytes.bits8 : waitsOk intrusionref06_FromBytes.T8.2 intrusionref06_FromBytes.B8 = true := by kernel_rfl
def intrusionref06_FromBytes.T9 : Bool × List (List Nat × List Nat) := (true, [([], []), ([0], [0]), ([1], [1]), ([], []), ([], []), ([3, 4], [3, 4]), ([5], [5]), ([2, 6], [2, 6]), ([0, 1, 2, 3, 4, 5, 6, 7], []), ([8, 7, 0, 1, 2, 3, 4, 5, 6, 7], [7, 8])])
def intrusionref06_FromBytes.B9 : List Nat := [0, 1, 3, 0, 0, 24, 56, 127, 255, 511]
theorem intrusionref06_FromBytes.tab9 : rtab .any (opsOf Try.f33 9) = intrusionref06_FromBytes.T9 := by kernel_rfl
theorem intrusionref06_FromBytes.bits9 : waitsOk intrusionref06_FromBytes.T9.2 intrusionref06_FromBytes.B9 = true := by kernel_rfl
set_option maxHeartbeats 8000000 in
set_option maxRecDepth 100000 in
theorem intrusionref06_FromBytes.calls (k : Nat) (a0 : ByteArray) (r1 : Bool) (r2 : Int) (r3 : Int) (r4 : Int) (w : World) (h : intrusionref06_FromBytes.f k a0 = some (r1, r2, r3, r4)) :
  Calls Try.prog 33 #[.string a0] w fun e w' => e = .returned (.tuple #[.agg #[.bool r1, .int .u64 r2, .int .u64 r3], .int .i64 r4]) ∧ Below w.heap.size w w' := by
 have hu25 := Try.underlying25
 have HB := As (Below.refl w.heap.size w)
 have H : (if (a0.size : Int) = 4 then (intrusionref06_FromBytes.j0 k a0 false) else (intrusionref06_FromBytes.j0 k a0 ((a0.size : Int) != 16))) = some (r1, r2, r3, r4) := h
 clear h
 have HC2 := As H
 clear H
 go_enter Try.func33, Try.ntmps33
 go_upto_region 1 with (first | ((with_reducible refine gate_dst (N := 2) rfl ?_); (try (refine gate_guard (by rfl) ?_; dsimp only)); refine box_event rfl (N := 2) rfl (cs := #[.bool false, .int .u64 0, .int .u64 0]) (t := 25) kG ?_; intro gb390 hg w3 hbox hb; have BK390 := As (hbox); have GW390 := As (gS hg (below_size (kB HB.out))); have GE390 := As (gS hg (below_size (kB HB.out))); replace HB := As (below_step (kB HB.out) hb); clear hb hbox hg))
 (try simp only [Act.put, sA, sZ, sS])
 go_cut [13] (fun v13 wc => ∃ (kq : Nat) (x13_1 : Bool), v13 = .bool x13_1 ∧ Aside0 (intrusionref06_FromBytes.j0 kq a0 x13_1 = some (r1, r2, r3, r4)) ∧ Aside0 (kq ≤ k) ∧ Aside0 (wc.heap[gb390]? = some (.cells #[.bool false, .int .u64 0, .int .u64 0] 25 (0, 0))) ∧ Aside0 (Below w.heap.size w wc))
 case first =>
  have H := HC2.out
  clear HC2
  by_cases c4 : (a0.size : Int) = 4
  ·rw [if_pos c4] at H
   have c4b0 : ((a0.size : Int) == 4) = true := beq_iff_eq.mpr c4
   have c4b1 : ((a0.size : Int) != 4) = false := bne_eq_false_iff_eq.mpr c4
   clear c4
   (first | rw [c4b0] | (simp only [i64_w, i32_w]; rw [c4b0]) | skip)
   have H' := As H
   clear H
   go_wp2
   go_meet
   case rel => exact ⟨_, (false), kS, H', ⟨by first | omega | exact Nat.le_refl _⟩, ⟨kb BK390.out⟩, ⟨kB1 HB.out GE390.out⟩⟩
  rw [if_neg c4] at H
  have c4b0 : ((a0.size : Int) == 4) = false := beq_eq_false_iff_ne.mpr c4
  have c4b1 : ((a0.size : Int) != 4) = true := bne_iff_ne.mpr c4
  (first | rw [c4b0] | (simp only [i64_w, i32_w]; rw [c4b0]) | skip)
  have H' := As H
  clear H
  go_wp2
  go_meet
  case rel => exact ⟨_, (((a0.size : Int) != 16)), kS, H', ⟨by first | omega | exact Nat.le_refl _⟩, ⟨kb BK390.out⟩, ⟨kB1 HB.out GE390.out⟩⟩
 clear HC2
 obtain ⟨kq, x13_1, rfl, HA, HJ1, BK390, HB⟩ := hcut
 cases kq with
 | zero => exact absurd HA.out (by simp [intrusionref06_FromBytes.j0])
 | succ kj1 =>
  have H := HA.out
  clear HA
  simp only [intrusionref06_FromBytes.j0] at H
  by_cases c5 : x13_1 = true
  ·subst c5
   rw [if_pos rfl] at H
   simp only [Option.some.injEq, Prod.mk.injEq] at H
   obtain ⟨rfl, rfl, rfl, rfl⟩ := H
   have hcz6_0 := cells_3 BK390.out
   have hfz6_0 := fun j_ => blk_frozen BK390.out j_
   go_wp2
   refine bodyPost_ret (results_ct rfl _ _ gb390 25 #[.bool false, .int .u64 0, .int .u64 0] (0, 0) _ rfl (by refine kb ?_; exact blk_all_3 (kb BK390.out) (by rfl)) Try.underlying25 rfl (by kernel_rfl)) rfl ?_
   exact ⟨kE, by exact kB1 HB.out GE390.out⟩
  replace c5 := Bool.eq_false_iff.mpr c5
  subst c5
  rw [if_neg (show ¬ (false = true) by decide)] at H
  have H' := As H
  clear H
  go_wp2_with (first | ((with_reducible refine gate_dst (N := 4) rfl ?_); (try (refine gate_guard (by rfl) ?_; dsimp only)); refine box_event rfl (N := 4) rfl (cs := #[.bool false, .int .u64 0, .int .u64 0]) (t := 25) kG ?_; intro gb391 hg w7 hbox hb; have BK391 := As (hbox); have GW391 := As (gS hg (below_size (kB1 HB.out GE390.out))); have GE391 := As (gS hg (below_size (kB1 HB.out GE390.out))); replace HB := As (below_step (kB1 HB.out GE390.out) hb); have NB390_391 := As (gN hg (blk_lt (kb BK390.out))); have NB391_390 := As (gM hg (blk_lt (kb BK390.out))); replace BK390 := As (blk_below (kb BK390.out) hb); clear hb hbox hg; have hnb8 := NB391_390.out; have hnc8 := NB390_391.out; have hcz9_0 := cells_3 BK391.out; have hfz9_0 := fun j_ => blk_frozen BK391.out j_))
  go_loopg [5] kj1 (fun kq v5 w' => ∃ (x5_2 : Int) (x392001_2 : Int) (x392002_2 : Int), v5 = .int .i64 x5_2 ∧ Aside0 (intrusionref06_FromBytes.l0 kq a0 x5_2 ((a0.size : Int) == 16) x392001_2 x392002_2 = some (r1, r2, r3, r4)) ∧ Aside0 (kq ≤ kj1) ∧ Aside0 (w'.heap[gb390]? = some (.cells #[.bool false, .int .u64 0, .int .u64 0] 25 (0, 0))) ∧ Aside0 (w'.heap[gb391]? = some (.cells #[.bool ((a0.size : Int) == 16), .int .u64 x392001_2, .int .u64 x392002_2] 25 (0, 0))) ∧ Aside0 (Below w.heap.size w w'))
  case atStart => exact ⟨(0), (0), (0), kS, H', ⟨Nat.le_refl _⟩, ⟨by refine kb ?_; (iterate 3 (refine blk_far ?_ NB390_391.out _; refine kb ?_)); exact BK390.out⟩, ⟨by refine kb ?_; exact blk_all_3 (kb BK391.out) (by rfl)⟩, ⟨kB2 HB.out GE390.out GE391.out⟩⟩
  clear H'
  try clear c5
  try clear hcz9_0
  try clear hfz9_0
  obtain ⟨x5_2, x392001_2, x392002_2, rfl, HA, HK2, BK390, BK391, HB⟩ := hrel
  cases gk with
  | zero => exact absurd HA.out (by simp [intrusionref06_FromBytes.l0])
  | succ k2 =>
   have H := HA.out
   clear HA
   simp only [intrusionref06_FromBytes.l0] at H
   by_cases c10 : x5_2 < (a0.size : Int)
   ·rw [if_pos c10] at H
    have c10b0 : decide (x5_2 < (a0.size : Int)) = true := decide_eq_true c10
    clear c10
    by_cases c11 : ((a0.size : Int) == 16) = true
    ·rw [if_pos c11] at H
     have c11b0 : ((a0.size : Int) == 16) = true := c11
     (try (have c11b1 : decide ((a0.size : Int) = 16) = true := by simpa using c11))
     (try (have c11b2 : ((a0.size : Int) == 16) = true := by simpa using c11))
     clear c11
     by_cases c12 : x5_2 < 8
     ·rw [if_pos c12] at H
      have c12b0 : decide (x5_2 < 8) = true := decide_eq_true c12
      clear c12
      replace H := iS H
      obtain ⟨c13, H⟩ := H
      have c13b0 := decide_eq_true c13
      clear c13
      have H' := As H
      clear H
      have hnb15 := NB391_390.out
      have hnc15 := NB390_391.out
      have hcz16_0 := cells_3 BK391.out
      have hfz16_0 := fun j_ => blk_frozen BK391.out j_
      try go_wp2
      replace BK390 := As (blk_drew BK390.out)
      replace BK391 := As (blk_drew BK391.out)
      replace HB := As (below_drew1 HB.out)
      have p14 : 0 ≤ (x5_2 : Int) := of_decide_eq_true (by first | (with_reducible assumption) | assumption)
      have q14 : x5_2 < (a0.size : Int) := of_decide_eq_true (by first | (with_reducible assumption) | assumption)
      have hx14 := bt_at a0 x5_2
      replace p14 := eq_true p14
      replace q14 := eq_true q14
      refine start_ (n := 10) (S := fun w' => w'.cell? ⟨gb391, 0, none⟩ = some (.bool ((a0.size : Int) == 16)) ∧ w'.cell? ⟨gb391, 1, none⟩ = some (.int .u64 x392001_2) ∧ w'.cell? ⟨gb391, 2, none⟩ = some (.int .u64 x392002_2)) (ds := [9]) #[O, O, O, O, O, O, O, O, O, O] (by kernel_rfl) rfl rfl ⟨kC BK391.out 0, kC BK391.out 1, kC BK391.out 2⟩ (fun hHeld => ?_); refine with_tabW intrusionref06_FromBytes.tab8 intrusionref06_FromBytes.bits8 (fun HT_ HW_ => ?_)
      generalize wr.drew = w17 at BK390 BK391 HB hHeld ⊢
      refine kP 0 31 #[I, O, O, O, O, O, O, O, O, O] ?_ (any_of HT_.out (by kernel_rfl))
      refine kP 3 34 #[I, O, O, I, O, O, O, O, O, O] ?_ (any_of HT_.out (by kernel_rfl))
      refine kP 4 35 #[I, O, O, I, I, O, O, O, O, O] ?_ (any_of HT_.out (by kernel_rfl))
      refine take_ (i := 1) (N := some 32) (v := ?_) (a' := ?_) #[I, I, O, I, I, O, O, O, O, O] rfl rfl (take_ofW HT_.out HW_.out (by kernel_rfl)) (fun _ _ _ h => h) (Or.inl ⟨by rfl, ?_⟩) hHeld ?_ ?_
      rotate_left
      ·rintro w' ⟨s0, s1, s2⟩
       go_simp
       with_reducible rfl
      rotate_left
      ·simp only [Act.put, sA, sZ, sS, i64_w, i32_w]
       rfl
      refine kP 2 33 #[I, I, I, I, I, O, O, O, O, O] ?_ (any_of HT_.out (by kernel_rfl))
      refine take_ (i := 5) (N := some 36) (v := ?_) (a' := ?_) #[I, I, I, I, I, I, O, O, O, O] rfl rfl (take_ofW HT_.out HW_.out (by kernel_rfl)) (fun _ _ _ h => h) (Or.inl ⟨by rfl, ?_⟩) hHeld ?_ ?_
      rotate_left
      ·rintro w' ⟨s0, s1, s2⟩
       go_simp
       with_reducible rfl
      rotate_left
      ·simp only [Act.put, sA, sZ, sS, i64_w, i32_w]
       rfl
      refine kP 6 37 #[I, I, I, I, I, I, I, O, O, O] ?_ (any_of HT_.out (by kernel_rfl))
      refine kP 7 38 #[I, I, I, I, I, I, I, I, O, O] ?_ (any_of HT_.out (by kernel_rfl))
      refine kP 8 39 #[I, I, I, I, I, I, I, I, I, O] ?_ (any_of HT_.out (by kernel_rfl))
      refine last_ (i := 9) (N := none) #[I, I, I, I, I, I, I, I, I, I] rfl rfl (one_of HT_.out (by kernel_rfl)) (by decide) (fun K hK => ?_)
      have hs18 : w17.cell? ⟨gb391, 1, none⟩ = some (.int .u64 x392001_2) := (blk_cell BK391.out 1).trans rfl
      have hfs18 := blk_frozen BK391.out 1
      have hns18_0 := NB390_391.out
      have hms18_0 := NB391_390.out
      refine skip_ (w1 := ?_) (by rfl) rfl ?_ ?_
      rotate_left
      ·go_simp
       rfl
      refine hK.out _ _ ?_
      clear hK K
      refine done_ (done_of HT_.out (by kernel_rfl)) ?_
      try go_wp2
      go_roundg k2
      case measure => have := HJ1.out; have := HK2.out; omega
      case rel => exact ⟨(wrap64 (x5_2 + 1)), (Go.bits .or .u64 (IntKind.u64.wrap (x392001_2 * 256)) (IntKind.u64.wrap (bt a0 x5_2))), (x392002_2), kS, H', ⟨by have := HJ1.out; have := HK2.out; omega⟩, ⟨by refine kb ?_; refine blk_far ?_ NB390_391.out _; exact kb BK390.out⟩, ⟨by refine kb ?_; refine blk_put (cs := #[.bool ((a0.size : Int) == 16), .int .u64 x392001_2, .int .u64 x392002_2]) ?_ 1 _ rfl; exact kb BK391.out⟩, ⟨kB2 HB.out GE390.out GE391.out⟩⟩
     rw [if_neg c12] at H
     have c12b0 : decide (x5_2 < 8) = false := decide_eq_false c12
     clear c12
     replace H := iS H
     obtain ⟨c19, H⟩ := H
     have c19b0 := decide_eq_true c19
     clear c19
     have H' := As H
     clear H
     have hnb21 := NB391_390.out
     have hnc21 := NB390_391.out
     have hcz22_0 := cells_3 BK391.out
     have hfz22_0 := fun j_ => blk_frozen BK391.out j_
     try go_wp2
     replace BK390 := As (blk_drew BK390.out)
     replace BK391 := As (blk_drew BK391.out)
     replace HB := As (below_drew1 HB.out)
     have p20 : 0 ≤ (x5_2 : Int) := of_decide_eq_true (by first | (with_reducible assumption) | assumption)
     have q20 : x5_2 < (a0.size : Int) := of_decide_eq_true (by first | (with_reducible assumption) | assumption)
     have hx20 := bt_at a0 x5_2
     replace p20 := eq_true p20
     replace q20 := eq_true q20
     refine start_ (n := 10) (S := fun w' => w'.cell? ⟨gb391, 0, none⟩ = some (.bool ((a0.size : Int) == 16)) ∧ w'.cell? ⟨gb391, 1, none⟩ = some (.int .u64 x392001_2) ∧ w'.cell? ⟨gb391, 2, none⟩ = some (.int .u64 x392002_2)) (ds := [9]) #[O, O, O, O, O, O, O, O, O, O] (by kernel_rfl) rfl rfl ⟨kC BK391.out 0, kC BK391.out 1, kC BK391.out 2⟩ (fun hHeld => ?_); refine with_tabW intrusionref06_FromBytes.tab9 intrusionref06_FromBytes.bits9 (fun HT_ HW_ => ?_)
     generalize wr.drew = w23 at BK390 BK391 HB hHeld ⊢
     refine kP 0 40 #[I, O, O, O, O, O, O, O, O, O] ?_ (any_of HT_.out (by kernel_rfl))
     refine kP 3 43 #[I, O, O, I, O, O, O, O, O, O] ?_ (any_of HT_.out (by kernel_rfl))
     refine kP 4 44 #[I, O, O, I, I, O, O, O, O, O] ?_ (any_of HT_.out (by kernel_rfl))
     refine take_ (i := 1) (N := some 41) (v := ?_) (a' := ?_) #[I, I, O, I, I, O, O, O, O, O] rfl rfl (take_ofW HT_.out HW_.out (by kernel_rfl)) (fun _ _ _ h => h) (Or.inl ⟨by rfl, ?_⟩) hHeld ?_ ?_
     rotate_left
     ·rintro w' ⟨s0, s1, s2⟩
      go_simp
      with_reducible rfl
     rotate_left
     ·simp only [Act.put, sA, sZ, sS, i64_w, i32_w]
      rfl
     refine kP 2 42 #[I, I, I, I, I, O, O, O, O, O] ?_ (any_of HT_.out (by kernel_rfl))
     refine take_ (i := 5) (N := some 45) (v := ?_) (a' := ?_) #[I, I, I, I, I, I, O, O, O, O] rfl rfl (take_ofW HT_.out HW_.out (by kernel_rfl)) (fun _ _ _ h => h) (Or.inl ⟨by rfl, ?_⟩) hHeld ?_ ?_
     rotate_left
     ·rintro w' ⟨s0, s1, s2⟩
      go_simp
      with_reducible rfl
     rotate_left
     ·simp only [Act.put, sA, sZ, sS, i64_w, i32_w]
      rfl
     refine kP 6 46 #[I, I, I, I, I, I, I, O, O, O] ?_ (any_of HT_.out (by kernel_rfl))
     refine kP 7 47 #[I, I, I, I, I, I, I, I, O, O] ?_ (any_of HT_.out (by kernel_rfl))
     refine kP 8 48 #[I, I, I, I, I, I, I, I, I, O] ?_ (any_of HT_.out (by kernel_rfl))
     refine last_ (i := 9) (N := none) #[I, I, I, I, I, I, I, I, I, I] rfl rfl (one_of HT_.out (by kernel_rfl)) (by decide) (fun K hK => ?_)
     have hs24 : w23.cell? ⟨gb391, 2, none⟩ = some (.int .u64 x392002_2) := (blk_cell BK391.out 2).trans rfl
     have hfs24 := blk_frozen BK391.out 2
     have hns24_0 := NB390_391.out
     have hms24_0 := NB391_390.out
     refine skip_ (w1 := ?_) (by rfl) rfl ?_ ?_
     rotate_left
     ·go_simp
      rfl
     refine hK.out _ _ ?_
     clear hK K
     refine done_ (done_of HT_.out (by kernel_rfl)) ?_
     try go_wp2
     go_roundg k2
     case measure => have := HJ1.out; have := HK2.out; omega
     case rel => exact ⟨(wrap64 (x5_2 + 1)), (x392001_2), (Go.bits .or .u64 (IntKind.u64.wrap (x392002_2 * 256)) (IntKind.u64.wrap (bt a0 x5_2))), kS, H', ⟨by have := HJ1.out; have := HK2.out; omega⟩, ⟨by refine kb ?_; refine blk_far ?_ NB390_391.out _; exact kb BK390.out⟩, ⟨by refine kb ?_; refine blk_put (cs := #[.bool ((a0.size : Int) == 16), .int .u64 x392001_2, .int .u64 x392002_2]) ?_ 2 _ rfl; exact kb BK391.out⟩, ⟨kB2 HB.out GE390.out GE391.out⟩⟩
    rw [if_neg c11] at H
    have c11b0 : ((a0.size : Int) == 16) = false := by simpa using c11
    (try (have c11b1 : decide ((a0.size : Int) = 16) = false := by simpa using c11))
    (try (have c11b2 : ((a0.size : Int) == 16) = false := by simpa using c11))
    (try (have c11b3 : ¬ ((a0.size : Int) = 16) := by simpa using c11))
    clear c11
    replace H := iS H
    obtain ⟨c25, H⟩ := H
    have c25b0 := decide_eq_true c25
    clear c25
    have H' := As H
    clear H
    have hnb27 := NB391_390.out
    have hnc27 := NB390_391.out
    have hcz28_0 := cells_3 BK391.out
    have hfz28_0 := fun j_ => blk_frozen BK391.out j_
    try go_wp2
    replace BK390 := As (blk_drew BK390.out)
    replace BK391 := As (blk_drew BK391.out)
    replace HB := As (below_drew1 HB.out)
    have p26 : 0 ≤ (x5_2 : Int) := of_decide_eq_true (by first | (with_reducible assumption) | assumption)
    have q26 : x5_2 < (a0.size : Int) := of_decide_eq_true (by first | (with_reducible assumption) | assumption)
    have hx26 := bt_at a0 x5_2
    replace p26 := eq_true p26
    replace q26 := eq_true q26
    refine start_ (n := 10) (S := fun w' => w'.cell? ⟨gb391, 0, none⟩ = some (.bool ((a0.size : Int) == 16)) ∧ w'.cell? ⟨gb391, 1, none⟩ = some (.int .u64 x392001_2) ∧ w'.cell? ⟨gb391, 2, none⟩ = some (.int .u64 x392002_2)) (ds := [9]) #[O, O, O, O, O, O, O, O, O, O] (by kernel_rfl) rfl rfl ⟨kC BK391.out 0, kC BK391.out 1, kC BK391.out 2⟩ (fun hHeld => ?_); refine with_tabW intrusionref06_FromBytes.tab9 intrusionref06_FromBytes.bits9 (fun HT_ HW_ => ?_)
    generalize wr.drew = w29 at BK390 BK391 HB hHeld ⊢
    refine kP 0 40 #[I, O, O, O, O, O, O, O, O, O] ?_ (any_of HT_.out (by kernel_rfl))
    refine kP 3 43 #[I, O, O, I, O, O, O, O, O, O] ?_ (any_of HT_.out (by kernel_rfl))
    refine kP 4 44 #[I, O, O, I, I, O, O, O, O, O] ?_ (any_of HT_.out (by kernel_rfl))
    refine take_ (i := 1) (N := some 41) (v := ?_) (a' := ?_) #[I, I, O, I, I, O, O, O, O, O] rfl rfl (take_ofW HT_.out HW_.out (by kernel_rfl)) (fun _ _ _ h => h) (Or.inl ⟨by rfl, ?_⟩) hHeld ?_ ?_
    rotate_left
    ·rintro w' ⟨s0, s1, s2⟩
     go_simp
     with_reducible rfl
    rotate_left
    ·simp only [Act.put, sA, sZ, sS, i64_w, i32_w]
     rfl
    refine kP 2 42 #[I, I, I, I, I, O, O, O, O, O] ?_ (any_of HT_.out (by kernel_rfl))
    refine take_ (i := 5) (N := some 45) (v := ?_) (a' := ?_) #[I, I, I, I, I, I, O, O, O, O] rfl rfl (take_ofW HT_.out HW_.out (by kernel_rfl)) (fun _ _ _ h => h) (Or.inl ⟨by rfl, ?_⟩) hHeld ?_ ?_
    rotate_left
    ·rintro w' ⟨s0, s1, s2⟩
     go_simp
     with_reducible rfl
    rotate_left
    ·simp only [Act.put, sA, sZ, sS, i64_w, i32_w]
     rfl
    refine kP 6 46 #[I, I, I, I, I, I, I, O, O, O] ?_ (any_of HT_.out (by kernel_rfl))
    refine kP 7 47 #[I, I, I, I, I, I, I, I, O, O] ?_ (any_of HT_.out (by kernel_rfl))
    refine kP 8 48 #[I, I, I, I, I, I, I, I, I, O] ?_ (any_of HT_.out (by kernel_rfl))
    refine last_ (i := 9) (N := none) #[I, I, I, I, I, I, I, I, I, I] rfl rfl (one_of HT_.out (by kernel_rfl)) (by decide) (fun K hK => ?_)
    have hs30 : w29.cell? ⟨gb391, 2, none⟩ = some (.int .u64 x392002_2) := (blk_cell BK391.out 2).trans rfl
    have hfs30 := blk_frozen BK391.out 2
    have hns30_0 := NB390_391.out
    have hms30_0 := NB391_390.out
    refine skip_ (w1 := ?_) (by rfl) rfl ?_ ?_
    rotate_left
    ·go_simp
     rfl
    refine hK.out _ _ ?_
    clear hK K
    refine done_ (done_of HT_.out (by kernel_rfl)) ?_
    try go_wp2
    go_roundg k2
    case measure => have := HJ1.out; have := HK2.out; omega
    case rel => exact ⟨(wrap64 (x5_2 + 1)), (x392001_2), (Go.bits .or .u64 (IntKind.u64.wrap (x392002_2 * 256)) (IntKind.u64.wrap (bt a0 x5_2))), kS, H', ⟨by have := HJ1.out; have := HK2.out; omega⟩, ⟨by refine kb ?_; refine blk_far ?_ NB390_391.out _; exact kb BK390.out⟩, ⟨by refine kb ?_; refine blk_put (cs := #[.bool ((a0.size : Int) == 16), .int .u64 x392001_2, .int .u64 x392002_2]) ?_ 2 _ rfl; exact kb BK391.out⟩, ⟨kB2 HB.out GE390.out GE391.out⟩⟩
   rw [if_neg c10] at H
   have c10b0 : decide (x5_2 < (a0.size : Int)) = false := decide_eq_false c10
   clear c10
   simp only [Option.some.injEq, Prod.mk.injEq] at H
   obtain ⟨rfl, rfl, rfl, rfl⟩ := H
   have hnb31 := NB391_390.out
   have hnc31 := NB390_391.out
   have hcz32_0 := cells_3 BK391.out
   have hfz32_0 := fun j_ => blk_frozen BK391.out j_
   have hcz33_0 := cells_3 BK390.out
   have hfz33_0 := fun j_ => blk_frozen BK390.out j_
   go_wp2
   refine bodyPost_ret (results_ct rfl _ _ gb390 25 #[.bool ((a0.size : Int) == 16), .int .u64 x392001_2, .int .u64 x392002_2] (0, 0) _ rfl (by refine kb ?_; exact blk_all_3 (kb BK390.out) (by rfl)) Try.underlying25 rfl (by kernel_rfl)) rfl ?_
   exact ⟨kE, by exact kB2 HB.out GE390.out GE391.out⟩

end Go.Proofs.Ytobioaommmgehaa.X
-- short
-- short2
