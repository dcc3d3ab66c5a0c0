/- Functions and their walks, printed by xprint.py. -/
import Derived.Test.YtocobalkikkhlaaDoorX0
import Derived.Test.YtocobalkikkhlaaDoorX11
namespace Go.Proofs.YtocobalkikkhlaaDoor.X
open Go.RowKit Go.Proofs.YtocobalkikkhlaaDoorW.PrintWords Go.Proofs.YtocobalkikkhlaaDoorW.PrintLast Go.Proofs.YtocobalkikkhlaaDoorW.PrintMore
attribute [local go_sem] max2_int min2_int max_two min_two max_three min_three max_four min_four   -- for this text's walks alone
set_option linter.unusedVariables false
set_option linter.unusedSimpArgs false

/-! ### intrusionref10_Decode: function 49 -/
def intrusionref10_Decode.l0 : Nat → ByteArray → Int → Int → Int → List Int → Int → ByteArray → Option (Int × Int × List Int × Int × ByteArray × Int)
 | 0, _, _, _, _, _, _, _ => none
 | k + 1, x0, x5, x353000, x353001, x353002, x353003, x353004 => if (wrap64 ((x0.size : Int) - x5)) < 2 then (some (0, 0, ([] : List Int), 0, (⟨#[]⟩ : ByteArray), 1)) else (if 0 ≤ x5 then (if x5 ≤ (wrap64 (x5 + 2)) then (if (wrap64 (x5 + 2)) ≤ (x0.size : Int) then ((intrusionref01_Value.f k (x0.extract (x5 : Int).toNat ((wrap64 (x5 + 2)) : Int).toNat)).bind fun t353 => ((intrusionref10_tag.f t353).bind fun t354 => (if t354 = true then (if (x353002.length : Int) = 2 then (some (0, 0, ([] : List Int), 0, (⟨#[]⟩ : ByteArray), 9)) else (if (wrap64 ((x0.size : Int) - (wrap64 (x5 + 2)))) < 2 then (some (0, 0, ([] : List Int), 0, (⟨#[]⟩ : ByteArray), 1)) else (if 0 ≤ (wrap64 (x5 + 2)) then (if (wrap64 (x5 + 2)) ≤ (wrap64 ((wrap64 (x5 + 2)) + 2)) then (if (wrap64 ((wrap64 (x5 + 2)) + 2)) ≤ (x0.size : Int) then ((intrusionref01_Value.f k (x0.extract ((wrap64 (x5 + 2)) : Int).toNat ((wrap64 ((wrap64 (x5 + 2)) + 2)) : Int).toNat)).bind fun t355 => (if x353002.length < 17592186044416 then (intrusionref10_Decode.l0 k x0 (wrap64 ((wrap64 (x5 + 2)) + 2)) x353000 x353001 (x353002 ++ [Int.tmod t355 4096]) x353003 x353004) else (none))) else (none)) else (none)) else (none)))) else (if t353 < 1536 then (some (0, 0, ([] : List Int), 0, (⟨#[]⟩ : ByteArray), 2)) else (if 0 ≤ (wrap64 (x5 + 2)) then (some (x353000, x353001, x353002, t353, x0.extract ((wrap64 (x5 + 2)) : Int).toNat x0.size, 0)) else (none)))))) else (none)) else (none)) else (none))
def intrusionref10_Decode.f (k : Nat) (a0 : ByteArray) : Option (Int × Int × List Int × Int × ByteArray × Int) := if (a0.size : Int) < 14 then (some (0, 0, ([] : List Int), 0, (⟨#[]⟩ : ByteArray), 1)) else (if 0 ≤ 6 then (if 6 ≤ (a0.size : Int) then ((intrusionref01_Value.f k (a0.extract 0 6)).bind fun t350 => (if 6 ≤ 12 then (if 12 ≤ (a0.size : Int) then ((intrusionref01_Value.f k (a0.extract 6 12)).bind fun t351 => (intrusionref10_Decode.l0 k a0 12 (IntKind.u64.wrap (t350)) (IntKind.u64.wrap (t351)) ([] : List Int) 0 (⟨#[]⟩ : ByteArray))) else (none)) else (none))) else (none)) else (none))
theorem intrusionref10_Decode.mono_l : ∀ k, (∀ y0 y1 y2 y3 y4 y5 y6, LeO (intrusionref10_Decode.l0 k y0 y1 y2 y3 y4 y5 y6) (intrusionref10_Decode.l0 (k + 1) y0 y1 y2 y3 y4 y5 y6))
 | 0 => fun _ _ _ _ _ _ _ r h => by simp [intrusionref10_Decode.l0] at h
 | k + 1 => by
  have ih0 := intrusionref10_Decode.mono_l k
  intro y0 y1 y2 y3 y4 y5 y6
  unfold intrusionref10_Decode.l0
  repeat' first | with_reducible first | apply ih0 | apply intrusionref01_Value.mono | apply LeO.refl | apply LeO.none | refine LeO.ite ?_ ?_ | refine LeO.bind ?_ (fun _ => ?_)
theorem intrusionref10_Decode.mono : ∀ a0 k, LeO (intrusionref10_Decode.f k a0) (intrusionref10_Decode.f (k + 1) a0) := by
 intro a0 k
 have ih0 := intrusionref10_Decode.mono_l k
 unfold intrusionref10_Decode.f
 repeat' first | with_reducible first | apply ih0 | apply intrusionref01_Value.mono | apply LeO.refl | apply LeO.none | refine LeO.ite ?_ ?_ | refine LeO.bind ?_ (fun _ => ?_)
def intrusionref10_Decode.T3 : Bool × List (List Nat × List Nat) := (true, [([], []), ([0], [0]), ([1], [1]), ([2], [2]), ([], []), ([4], [4]), ([5, 2], [5]), ([6], [6]), ([3, 7], [3, 7]), ([], []), ([9, 8, 6, 0, 1, 2, 3, 4, 5, 6, 7, 8, 9], [8, 9])])
def intrusionref10_Decode.B3 : List Nat := [0, 1, 3, 7, 0, 16, 55, 119, 255, 0, 1023]
theorem intrusionref10_Decode.tab3 : rtab .any (opsOf Tryd.f49 3) = intrusionref10_Decode.T3 := by kernel_rfl
theorem intrusionref10_Decode.bits3 : waitsOk intrusionref10_Decode.T3.2 intrusionref10_Decode.B3 = true := by kernel_rfl
def intrusionref10_Decode.T19 : Bool × List (List Nat × List Nat) := (true, [([], []), ([0], [0]), ([], []), ([], []), ([], []), ([4], [4]), ([2, 3, 5], [2, 3, 5]), ([6], [6]), ([7], [7]), ([8], [8]), ([1, 9, 7], [1, 9]), ([0, 1, 2, 3, 4, 5, 6, 7, 8, 9, 10], []), ([11, 10, 10, 0, 1, 2, 3, 4, 5, 6, 7, 8, 9, 10], [10, 11])])
def intrusionref10_Decode.B19 : List Nat := [0, 1, 0, 0, 0, 16, 60, 124, 252, 508, 1023, 2047, 4095]
theorem intrusionref10_Decode.tab19 : rtab .any (opsOf Tryd.f49 19) = intrusionref10_Decode.T19 := by kernel_rfl
theorem intrusionref10_Decode.bits19 : waitsOk intrusionref10_Decode.T19.2 intrusionref10_Decode.B19 = true := by kernel_rfl
set_option maxHeartbeats 8000000 in
set_option maxRecDepth 100000 in
theorem intrusionref10_Decode.calls (k : Nat) (a0 : ByteArray) (r1 : Int) (r2 : Int) (r3 : List Int) (r4 : Int) (r5 : ByteArray) (r6 : Int) (w : World) (h : intrusionref10_Decode.f k a0 = some (r1, r2, r3, r4, r5, r6)) :
  Calls Tryd.prog 49 #[.string a0] w fun e w' => ∃ v2_ : Value, e = .returned (.tuple #[.agg #[.int .u64 r1, .int .u64 r2, v2_, .int .i64 r4, .string r5], .int .i64 r6]) ∧ Kd.R (Kd.int .i64) 3 w' w.heap.size (fun _ => True) v2_ r3 ∧ Below w.heap.size w w' := by
 have hu80 := Tryd.underlying80
 have HB := As (Below.refl w.heap.size w)
 have H : (if (a0.size : Int) < 14 then (some (0, 0, ([] : List Int), 0, (⟨#[]⟩ : ByteArray), 1)) else (if 0 ≤ 6 then (if 6 ≤ (a0.size : Int) then ((intrusionref01_Value.f k (a0.extract 0 6)).bind fun t350 => (if 6 ≤ 12 then (if 12 ≤ (a0.size : Int) then ((intrusionref01_Value.f k (a0.extract 6 12)).bind fun t351 => (intrusionref10_Decode.l0 k a0 12 (IntKind.u64.wrap (t350)) (IntKind.u64.wrap (t351)) ([] : List Int) 0 (⟨#[]⟩ : ByteArray))) else (none)) else (none))) else (none)) else (none))) = some (r1, r2, r3, r4, r5, r6) := h
 clear h
 by_cases c2 : (a0.size : Int) < 14
 ·rw [if_pos c2] at H
  have c2b0 : decide ((a0.size : Int) < 14) = true := decide_eq_true c2
  have c2b1 : decide (a0.size < 14) = true := decide_eq_true (by omega)
  clear c2
  simp only [Option.some.injEq, Prod.mk.injEq] at H
  obtain ⟨rfl, rfl, rfl, rfl, rfl, rfl⟩ := H
  go_enter Tryd.func49, Tryd.ntmps49
  go_wp2_with (first | ((with_reducible refine gate_dst (N := 2) rfl ?_); refine box_event rfl (N := 2) rfl (cs := #[.int .u64 0, .int .u64 0, .slice none 0 0, .int .i64 0, .string (⟨#[]⟩ : ByteArray)]) (t := 80) kG ?_; intro gb349 hg w3 hbox hb; have BK349 := As (hbox); have GW349 := As ((by rw [hg]; exact (below_size (kB HB.out)) : w.heap.size ≤ gb349)); have GE349 := As ((by rw [hg]; exact (below_size (kB HB.out)) : w.heap.size ≤ gb349)); replace HB := As (below_step (kB HB.out) hb); clear hb hbox hg; have hcz4_0 := cells_5 BK349.out; have hfz4_0 := fun j_ => blk_frozen BK349.out j_))
  refine bodyPost_ret (results_ct rfl _ _ gb349 80 #[.int .u64 0, .int .u64 0, .slice none 0 0, .int .i64 0, .string (⟨#[]⟩ : ByteArray)] (0, 0) _ rfl (by refine kb ?_; exact blk_all_5 (kb BK349.out) (by rfl)) Tryd.underlying80 rfl (by kernel_rfl)) rfl ?_
  exact ⟨_, kE, by first | exact Kd.R_nil _ _ _ _ _ | exact Kd.N_nil _ _ _ _ _ | exact Kd.V_nil _ _ _ _ _ | exact Kd.Q_nil _ _ _ _ _ | exact Kd.S_nil _ _ _ _ _, by exact kB1 HB.out GE349.out⟩
 rw [if_neg c2] at H
 have c2b0 : decide ((a0.size : Int) < 14) = false := decide_eq_false c2
 have c2b1 : decide (a0.size < 14) = false := decide_eq_false (by omega)
 clear c2
 by_cases c5 : 0 ≤ 6
 ·rw [if_pos c5] at H
  have c5b0 := eq_true c5
  have c5b1 : decide (0 ≤ 6) = true := decide_eq_true c5
  clear c5
  by_cases c6 : 6 ≤ (a0.size : Int)
  ·rw [if_pos c6] at H
   have c6b0 := eq_true c6
   have c6b1 : decide (6 ≤ (a0.size : Int)) = true := decide_eq_true c6
   clear c6
   replace H := Option.bind_eq_some_iff.mp H
   obtain ⟨t350, A70, H⟩ := H
   replace H : (if 6 ≤ 12 then (if 12 ≤ (a0.size : Int) then ((intrusionref01_Value.f k (a0.extract 6 12)).bind fun t351 => (intrusionref10_Decode.l0 k a0 12 (IntKind.u64.wrap (t350)) (IntKind.u64.wrap (t351)) ([] : List Int) 0 (⟨#[]⟩ : ByteArray))) else (none)) else (none)) = some (r1, r2, r3, r4, r5, r6) := H
   have A7 := As A70
   clear A70
   by_cases c8 : 6 ≤ 12
   ·rw [if_pos c8] at H
    have c8b0 := eq_true c8
    have c8b1 : decide (6 ≤ 12) = true := decide_eq_true c8
    clear c8
    by_cases c9 : 12 ≤ (a0.size : Int)
    ·rw [if_pos c9] at H
     have c9b0 := eq_true c9
     have c9b1 : decide (12 ≤ (a0.size : Int)) = true := decide_eq_true c9
     clear c9
     replace H := Option.bind_eq_some_iff.mp H
     obtain ⟨t351, A100, H⟩ := H
     replace H : (intrusionref10_Decode.l0 k a0 12 (IntKind.u64.wrap (t350)) (IntKind.u64.wrap (t351)) ([] : List Int) 0 (⟨#[]⟩ : ByteArray)) = some (r1, r2, r3, r4, r5, r6) := H
     have A10 := As A100
     clear A100
     have H' := As H
     clear H
     go_enter Tryd.func49, Tryd.ntmps49
     try go_wp2_with (first | ((with_reducible refine gate_dst (N := 2) rfl ?_); refine box_event rfl (N := 2) rfl (cs := #[.int .u64 0, .int .u64 0, .slice none 0 0, .int .i64 0, .string (⟨#[]⟩ : ByteArray)]) (t := 80) kG ?_; intro gb349 hg w11 hbox hb; have BK349 := As (hbox); have GW349 := As ((by rw [hg]; exact (below_size (kB HB.out)) : w.heap.size ≤ gb349)); have GE349 := As ((by rw [hg]; exact (below_size (kB HB.out)) : w.heap.size ≤ gb349)); replace HB := As (below_step (kB HB.out) hb); clear hb hbox hg))
     replace BK349 := As (blk_drew BK349.out)
     replace HB := As (below_drew1 HB.out)
     refine start_ (n := 11) (S := fun w' => True) (ds := []) #[O, O, O, O, O, O, O, O, O, O, O] (by kernel_rfl) rfl rfl trivial (fun hHeld => ?_); refine with_tabW intrusionref10_Decode.tab3 intrusionref10_Decode.bits3 (fun HT_ HW_ => ?_)
     generalize w11.drew = w12 at BK349 HB hHeld ⊢
     refine kP 0 11 #[I, O, O, O, O, O, O, O, O, O, O] ?_ (any_of HT_.out (by kernel_rfl))
     refine kP 1 12 #[I, I, O, O, O, O, O, O, O, O, O] ?_ (any_of HT_.out (by kernel_rfl))
     refine kP 4 15 #[I, I, O, O, I, O, O, O, O, O, O] ?_ (any_of HT_.out (by kernel_rfl))
     refine kP 5 16 #[I, I, O, O, I, I, O, O, O, O, O] ?_ (any_of HT_.out (by kernel_rfl))
     refine join_ (σ := Nat) 1 #[I, I, I, I, I, I, I, I, I, I, O] (fun s_ => [(13, .int .i64 t350), (17, .int .i64 t351), (4, .pointer (some ⟨s_, 0, none⟩)), (14, .int .u64 (IntKind.u64.wrap (t350))), (18, .int .u64 (IntKind.u64.wrap (t351))), (19, .agg #[.int .u64 (IntKind.u64.wrap (t350)), .int .u64 (IntKind.u64.wrap (t351)), .slice none 0 0, .int .i64 0, .string (⟨#[]⟩ : ByteArray)])]) (fun s_ w' => (w'.heap[gb349]? = some (.cells #[.int .u64 0, .int .u64 0, .slice none 0 0, .int .i64 0, .string (⟨#[]⟩ : ByteArray)] 80 (0, 0))) ∧ (w'.heap[s_]? = some (.cells #[.int .u64 0, .int .u64 0, .slice none 0 0, .int .i64 0, .string (⟨#[]⟩ : ByteArray)] 80 (0, 0))) ∧ (w.heap.size ≤ s_) ∧ (w.heap.size ≤ s_) ∧ (gb349 ≠ s_) ∧ (s_ ≠ gb349) ∧ (Below w.heap.size w w')) ?_ ?_
     rotate_left
     ·intro hCont
      refine two_ (i := 2) (j := 9) (Ni := some 13) (Nj := some 4) #[I, I, I, O, I, I, O, O, O, O, O] #[I, I, O, O, I, I, O, O, O, I, O] rfl rfl rfl rfl (two_of HT_.out (by kernel_rfl)) (by decide) (by decide) (fun K hK => ?_) (fun K hK => ?_)
      ·skip
       refine goes_ Tryd.func88 (by kernel_rfl) rfl #[.string (a0.extract 0 6)] (by rfl) rfl rfl kA ?_
       with_reducible refine (intrusionref01_Value.calls k (a0.extract 0 6) t350 _ A7.out).mono ?_
       rintro e w' ⟨rfl, ⟨nd, rfl⟩⟩
       refine ⟨_, rfl, ?_⟩
       refine hK.out _ _ trivial (fun hHeld => ?_)
       clear hK K
       refine norm_ (a' := ?_) ?_ ?_
       rotate_left
       ·show Act.put _ (some 13) _ = _
        simp only [Act.put, sA, sZ, sS, i64_w, i32_w]
        rfl
       refine kP 3 14 #[I, I, I, I, I, I, O, O, O, O, O] ?_ (any_of HT_.out (by kernel_rfl))
       refine two_ (i := 6) (j := 9) (Ni := some 17) (Nj := some 4) #[I, I, I, I, I, I, I, O, O, O, O] #[I, I, I, I, I, I, O, O, O, I, O] rfl rfl rfl rfl (two_of HT_.out (by kernel_rfl)) (by decide) (by decide) (fun K hK => ?_) (fun K hK => ?_)
       ·skip
        refine goes_ Tryd.func88 (by kernel_rfl) rfl #[.string (a0.extract 6 12)] (by rfl) rfl rfl kA ?_
        with_reducible refine (intrusionref01_Value.calls k (a0.extract 6 12) t351 _ A10.out).mono ?_
        rintro e w' ⟨rfl, ⟨nd, rfl⟩⟩
        refine ⟨_, rfl, ?_⟩
        refine hK.out _ _ trivial (fun hHeld => ?_)
        clear hK K
        refine norm_ (a' := ?_) ?_ ?_
        rotate_left
        ·show Act.put _ (some 17) _ = _
         simp only [Act.put, sA, sZ, sS, i64_w, i32_w]
         rfl
        refine kP 7 18 #[I, I, I, I, I, I, I, I, O, O, O] ?_ (any_of HT_.out (by kernel_rfl))
        refine kP 8 19 #[I, I, I, I, I, I, I, I, I, O, O] ?_ (any_of HT_.out (by kernel_rfl))
        refine one_ (i := 9) (N := some 4) #[I, I, I, I, I, I, I, I, I, I, O] rfl rfl (one_of HT_.out (by kernel_rfl)) (by decide) (fun K hK => ?_)
        refine box_step rfl (N := 4) rfl (cs := #[.int .u64 0, .int .u64 0, .slice none 0 0, .int .i64 0, .string (⟨#[]⟩ : ByteArray)]) (t := 80) kG ?_
        intro gb352 hg w13 hbox hb
        have BK352 := As (hbox)
        have GW352 := As ((by rw [hg]; exact (below_size (kB1 HB.out GE349.out)) : w.heap.size ≤ gb352))
        have GE352 := As ((by rw [hg]; exact (below_size (kB1 HB.out GE349.out)) : w.heap.size ≤ gb352))
        replace HB := As (below_step (kB1 HB.out GE349.out) hb)
        have NB349_352 := As ((by rw [hg]; exact Nat.ne_of_lt (blk_lt (kb BK349.out)) : gb349 ≠ gb352))
        have NB352_349 := As ((by rw [hg]; exact Nat.ne_of_gt (blk_lt (kb BK349.out)) : gb352 ≠ gb349))
        replace BK349 := As (blk_below (kb BK349.out) hb)
        clear hb hbox hg
        refine hK.out _ _ trivial (fun hHeld => ?_)
        clear hK K
        refine norm_ (a' := ?_) ?_ ?_
        rotate_left
        ·show Act.put _ (some 4) _ = _
         simp only [Act.put, sA, sZ, sS, i64_w, i32_w]
         rfl
        exact norm_ (by simp only [putAll, Act.put, sA, sZ, sS]) (hCont (gb352) _ ⟨(kb BK349.out), (kb BK352.out), GW352.out, GE352.out, NB349_352.out, NB352_349.out, (kB2 HB.out GE349.out GE352.out)⟩)
       skip
       refine box_step rfl (N := 4) rfl (cs := #[.int .u64 0, .int .u64 0, .slice none 0 0, .int .i64 0, .string (⟨#[]⟩ : ByteArray)]) (t := 80) kG ?_
       intro gb352 hg w13 hbox hb
       have BK352 := As (hbox)
       have GW352 := As ((by rw [hg]; exact (below_size (kB1 HB.out GE349.out)) : w.heap.size ≤ gb352))
       have GE352 := As ((by rw [hg]; exact (below_size (kB1 HB.out GE349.out)) : w.heap.size ≤ gb352))
       replace HB := As (below_step (kB1 HB.out GE349.out) hb)
       have NB349_352 := As ((by rw [hg]; exact Nat.ne_of_lt (blk_lt (kb BK349.out)) : gb349 ≠ gb352))
       have NB352_349 := As ((by rw [hg]; exact Nat.ne_of_gt (blk_lt (kb BK349.out)) : gb352 ≠ gb349))
       replace BK349 := As (blk_below (kb BK349.out) hb)
       clear hb hbox hg
       refine hK.out _ _ trivial (fun hHeld => ?_)
       clear hK K
       refine norm_ (a' := ?_) ?_ ?_
       rotate_left
       ·show Act.put _ (some 4) _ = _
        simp only [Act.put, sA, sZ, sS, i64_w, i32_w]
        rfl
       refine one_ (i := 6) (N := some 17) #[I, I, I, I, I, I, I, O, O, I, O] rfl rfl (one_of HT_.out (by kernel_rfl)) (by decide) (fun K hK => ?_)
       refine goes_ Tryd.func88 (by kernel_rfl) rfl #[.string (a0.extract 6 12)] (by rfl) rfl rfl kA ?_
       with_reducible refine (intrusionref01_Value.calls k (a0.extract 6 12) t351 _ A10.out).mono ?_
       rintro e w' ⟨rfl, ⟨nd, rfl⟩⟩
       refine ⟨_, rfl, ?_⟩
       refine hK.out _ _ trivial (fun hHeld => ?_)
       clear hK K
       refine norm_ (a' := ?_) ?_ ?_
       rotate_left
       ·show Act.put _ (some 17) _ = _
        simp only [Act.put, sA, sZ, sS, i64_w, i32_w]
        rfl
       refine kP 7 18 #[I, I, I, I, I, I, I, I, O, I, O] ?_ (any_of HT_.out (by kernel_rfl))
       refine kP 8 19 #[I, I, I, I, I, I, I, I, I, I, O] ?_ (any_of HT_.out (by kernel_rfl))
       exact norm_ (by simp only [putAll, Act.put, sA, sZ, sS]) (hCont (gb352) _ ⟨(kb BK349.out), (kb BK352.out), GW352.out, GE352.out, NB349_352.out, NB352_349.out, (kB2 HB.out GE349.out GE352.out)⟩)
      skip
      refine box_step rfl (N := 4) rfl (cs := #[.int .u64 0, .int .u64 0, .slice none 0 0, .int .i64 0, .string (⟨#[]⟩ : ByteArray)]) (t := 80) kG ?_
      intro gb352 hg w13 hbox hb
      have BK352 := As (hbox)
      have GW352 := As ((by rw [hg]; exact (below_size (kB1 HB.out GE349.out)) : w.heap.size ≤ gb352))
      have GE352 := As ((by rw [hg]; exact (below_size (kB1 HB.out GE349.out)) : w.heap.size ≤ gb352))
      replace HB := As (below_step (kB1 HB.out GE349.out) hb)
      have NB349_352 := As ((by rw [hg]; exact Nat.ne_of_lt (blk_lt (kb BK349.out)) : gb349 ≠ gb352))
      have NB352_349 := As ((by rw [hg]; exact Nat.ne_of_gt (blk_lt (kb BK349.out)) : gb352 ≠ gb349))
      replace BK349 := As (blk_below (kb BK349.out) hb)
      clear hb hbox hg
      refine hK.out _ _ trivial (fun hHeld => ?_)
      clear hK K
      refine norm_ (a' := ?_) ?_ ?_
      rotate_left
      ·show Act.put _ (some 4) _ = _
       simp only [Act.put, sA, sZ, sS, i64_w, i32_w]
       rfl
      refine one_ (i := 2) (N := some 13) #[I, I, I, O, I, I, O, O, O, I, O] rfl rfl (one_of HT_.out (by kernel_rfl)) (by decide) (fun K hK => ?_)
      refine goes_ Tryd.func88 (by kernel_rfl) rfl #[.string (a0.extract 0 6)] (by rfl) rfl rfl kA ?_
      with_reducible refine (intrusionref01_Value.calls k (a0.extract 0 6) t350 _ A7.out).mono ?_
      rintro e w' ⟨rfl, ⟨nd, rfl⟩⟩
      refine ⟨_, rfl, ?_⟩
      refine hK.out _ _ trivial (fun hHeld => ?_)
      clear hK K
      refine norm_ (a' := ?_) ?_ ?_
      rotate_left
      ·show Act.put _ (some 13) _ = _
       simp only [Act.put, sA, sZ, sS, i64_w, i32_w]
       rfl
      refine kP 3 14 #[I, I, I, I, I, I, O, O, O, I, O] ?_ (any_of HT_.out (by kernel_rfl))
      refine one_ (i := 6) (N := some 17) #[I, I, I, I, I, I, I, O, O, I, O] rfl rfl (one_of HT_.out (by kernel_rfl)) (by decide) (fun K hK => ?_)
      refine goes_ Tryd.func88 (by kernel_rfl) rfl #[.string (a0.extract 6 12)] (by rfl) rfl rfl kA ?_
      with_reducible refine (intrusionref01_Value.calls k (a0.extract 6 12) t351 _ A10.out).mono ?_
      rintro e w' ⟨rfl, ⟨nd, rfl⟩⟩
      refine ⟨_, rfl, ?_⟩
      refine hK.out _ _ trivial (fun hHeld => ?_)
      clear hK K
      refine norm_ (a' := ?_) ?_ ?_
      rotate_left
      ·show Act.put _ (some 17) _ = _
       simp only [Act.put, sA, sZ, sS, i64_w, i32_w]
       rfl
      refine kP 7 18 #[I, I, I, I, I, I, I, I, O, I, O] ?_ (any_of HT_.out (by kernel_rfl))
      refine kP 8 19 #[I, I, I, I, I, I, I, I, I, I, O] ?_ (any_of HT_.out (by kernel_rfl))
      exact norm_ (by simp only [putAll, Act.put, sA, sZ, sS]) (hCont (gb352) _ ⟨(kb BK349.out), (kb BK352.out), GW352.out, GE352.out, NB349_352.out, NB352_349.out, (kB2 HB.out GE349.out GE352.out)⟩)
     rintro gb352 w14 ⟨h0_, h1_, h2_, h3_, h4_, h5_, h6_⟩
     have n0_ : Aside0 (w14.heap[gb349]? = some (.cells #[.int .u64 0, .int .u64 0, .slice none 0 0, .int .i64 0, .string (⟨#[]⟩ : ByteArray)] 80 (0, 0))) := ⟨h0_⟩
     have n1_ : Aside0 (w14.heap[gb352]? = some (.cells #[.int .u64 0, .int .u64 0, .slice none 0 0, .int .i64 0, .string (⟨#[]⟩ : ByteArray)] 80 (0, 0))) := ⟨h1_⟩
     have n2_ : Aside0 (w.heap.size ≤ gb352) := ⟨h2_⟩
     have n3_ : Aside0 (w.heap.size ≤ gb352) := ⟨h3_⟩
     have n4_ : Aside0 (gb349 ≠ gb352) := ⟨h4_⟩
     have n5_ : Aside0 (gb352 ≠ gb349) := ⟨h5_⟩
     have n6_ : Aside0 (Below w.heap.size w w14) := ⟨h6_⟩
     clear BK349
     clear HB
     clear h0_ h1_ h2_ h3_ h4_ h5_ h6_
     have BK349 := n0_
     have BK352 := n1_
     have GW352 := n2_
     have GE352 := n3_
     have NB349_352 := n4_
     have NB352_349 := n5_
     have HB := n6_
     clear n0_ n1_ n2_ n3_ n4_ n5_ n6_
     have hHeld := trivial
     refine norm_ (a' := ?_) ?_ ?_
     rotate_left
     ·simp only [putAll, Act.put, sA, sZ, sS]
      rfl
     refine one_ (i := 10) (N := none) #[I, I, I, I, I, I, I, I, I, I, I] rfl rfl (one_of HT_.out (by kernel_rfl)) (by decide) (fun K hK => ?_)
     have hs15 : w14.cell? ⟨gb352, 0, none⟩ = some (.int .u64 0) := (blk_cell BK352.out 0).trans rfl
     have hfs15 := blk_frozen BK352.out 0
     have hns15_0 := NB349_352.out
     have hms15_0 := NB352_349.out
     have hs16 : w14.cell? ⟨gb352, 1, none⟩ = some (.int .u64 0) := (blk_cell BK352.out 1).trans rfl
     have hfs16 := blk_frozen BK352.out 1
     have hns16_0 := NB349_352.out
     have hms16_0 := NB352_349.out
     have hs17 : w14.cell? ⟨gb352, 2, none⟩ = some (.slice none 0 0) := (blk_cell BK352.out 2).trans rfl
     have hfs17 := blk_frozen BK352.out 2
     have hns17_0 := NB349_352.out
     have hms17_0 := NB352_349.out
     have hs18 : w14.cell? ⟨gb352, 3, none⟩ = some (.int .i64 0) := (blk_cell BK352.out 3).trans rfl
     have hfs18 := blk_frozen BK352.out 3
     have hns18_0 := NB349_352.out
     have hms18_0 := NB352_349.out
     have hs19 : w14.cell? ⟨gb352, 4, none⟩ = some (.string (⟨#[]⟩ : ByteArray)) := (blk_cell BK352.out 4).trans rfl
     have hfs19 := blk_frozen BK352.out 4
     have hns19_0 := NB349_352.out
     have hms19_0 := NB352_349.out
     refine skip_ (w1 := ?_) (by rfl) rfl ?_ ?_
     rotate_left
     ·go_simp
      rfl
     refine hK.out _ _ trivial (fun hHeld => ?_)
     clear hK K
     refine done_ (done_of HT_.out (by kernel_rfl)) ?_
     try go_wp2
     go_loopg [5] k (fun kq v5 w' => ∃ (x5_1 : Int) (x350000_1 : Int) (x350001_1 : Int) (x350003_1 : Int) (x350004_1 : ByteArray) (x353002_1 : List Int) (x353003_1 : Int) (x353004_1 : ByteArray) (u353002 : Value), v5 = .int .i64 x5_1 ∧ Aside0 (intrusionref10_Decode.l0 kq a0 x5_1 (IntKind.u64.wrap (t350)) (IntKind.u64.wrap (t351)) x353002_1 x353003_1 x353004_1 = some (r1, r2, r3, r4, r5, r6)) ∧ Aside0 (kq ≤ k) ∧ Aside0 (Kd.R (Kd.int .i64) 3 w' w.heap.size (fun _ => True) u353002 x353002_1) ∧ Aside0 (w'.heap[gb349]? = some (.cells #[.int .u64 x350000_1, .int .u64 x350001_1, (.slice none 0 0), .int .i64 x350003_1, .string x350004_1] 80 (0, 0))) ∧ Aside0 (w'.heap[gb352]? = some (.cells #[.int .u64 (IntKind.u64.wrap (t350)), .int .u64 (IntKind.u64.wrap (t351)), u353002, .int .i64 x353003_1, .string x353004_1] 80 (0, 0))) ∧ Aside0 (Below w.heap.size w w'))
     case atStart => exact ⟨(12), (0), (0), (0), ((⟨#[]⟩ : ByteArray)), (([] : List Int)), (0), ((⟨#[]⟩ : ByteArray)), (.slice none 0 0), kS, H', ⟨Nat.le_refl _⟩, ⟨by first | exact Kd.R_nil _ _ _ _ _ | exact Kd.N_nil _ _ _ _ _ | exact Kd.V_nil _ _ _ _ _ | exact Kd.Q_nil _ _ _ _ _ | exact Kd.S_nil _ _ _ _ _⟩, ⟨by refine kb ?_; (iterate 5 (refine blk_far ?_ NB349_352.out _; refine kb ?_)); exact BK349.out⟩, ⟨by refine kb ?_; exact blk_all_5 (kb BK352.out) (by rfl)⟩, ⟨kB2 HB.out GE349.out GE352.out⟩⟩
     clear H'
     try clear c2
     try clear c2b0
     try clear c2b1
     try clear c5
     try clear c5b0
     try clear c5b1
     try clear c6
     try clear c6b0
     try clear c6b1
     try clear c8
     try clear c8b0
     try clear c8b1
     try clear c9
     try clear c9b0
     try clear c9b1
     obtain ⟨x5_1, x350000_1, x350001_1, x350003_1, x350004_1, x353002_1, x353003_1, x353004_1, u353002, rfl, HA, HK1, HO_353002, BK349, BK352, HB⟩ := hrel
     cases gk with
     | zero => exact absurd HA.out (by simp [intrusionref10_Decode.l0])
     | succ k1 =>
      have H := HA.out
      clear HA
      simp only [intrusionref10_Decode.l0] at H
      by_cases c20 : (wrap64 ((a0.size : Int) - x5_1)) < 2
      ·rw [if_pos c20] at H
       have c20b0 : decide ((wrap64 ((a0.size : Int) - x5_1)) < 2) = true := decide_eq_true c20
       clear c20
       simp only [Option.some.injEq, Prod.mk.injEq] at H
       obtain ⟨rfl, rfl, rfl, rfl, rfl, rfl⟩ := H
       have hnb21 := NB349_352.out
       have hnc21 := NB352_349.out
       have hcz22_0 := cells_5 BK349.out
       have hfz22_0 := fun j_ => blk_frozen BK349.out j_
       go_wp2
       refine bodyPost_ret (results_ct rfl _ _ gb349 80 #[.int .u64 0, .int .u64 0, .slice none 0 0, .int .i64 0, .string (⟨#[]⟩ : ByteArray)] (0, 0) _ rfl (by refine kb ?_; exact blk_all_5 (kb BK349.out) (by rfl)) Tryd.underlying80 rfl (by kernel_rfl)) rfl ?_
       exact ⟨_, kE, by first | exact Kd.R_nil _ _ _ _ _ | exact Kd.N_nil _ _ _ _ _ | exact Kd.V_nil _ _ _ _ _ | exact Kd.Q_nil _ _ _ _ _ | exact Kd.S_nil _ _ _ _ _, by exact kB2 HB.out GE349.out GE352.out⟩
      rw [if_neg c20] at H
      have c20b0 : decide ((wrap64 ((a0.size : Int) - x5_1)) < 2) = false := decide_eq_false c20
      clear c20
      by_cases c23 : 0 ≤ x5_1
      ·rw [if_pos c23] at H
       have c23b0 := eq_true c23
       have c23b1 : decide (0 ≤ x5_1) = true := decide_eq_true c23
       clear c23
       by_cases c24 : x5_1 ≤ (wrap64 (x5_1 + 2))
       ·rw [if_pos c24] at H
        have c24b0 := eq_true c24
        have c24b1 : decide (x5_1 ≤ (wrap64 (x5_1 + 2))) = true := decide_eq_true c24
        by_cases c25 : (wrap64 (x5_1 + 2)) ≤ (a0.size : Int)
        ·rw [if_pos c25] at H
         have c25b0 := eq_true c25
         have c25b1 : decide ((wrap64 (x5_1 + 2)) ≤ (a0.size : Int)) = true := decide_eq_true c25
         replace H := Option.bind_eq_some_iff.mp H
         obtain ⟨t353, A260, H⟩ := H
         replace H : ((intrusionref10_tag.f t353).bind fun t354 => (if t354 = true then (if (x353002_1.length : Int) = 2 then (some (0, 0, ([] : List Int), 0, (⟨#[]⟩ : ByteArray), 9)) else (if (wrap64 ((a0.size : Int) - (wrap64 (x5_1 + 2)))) < 2 then (some (0, 0, ([] : List Int), 0, (⟨#[]⟩ : ByteArray), 1)) else (if 0 ≤ (wrap64 (x5_1 + 2)) then (if (wrap64 (x5_1 + 2)) ≤ (wrap64 ((wrap64 (x5_1 + 2)) + 2)) then (if (wrap64 ((wrap64 (x5_1 + 2)) + 2)) ≤ (a0.size : Int) then ((intrusionref01_Value.f k1 (a0.extract ((wrap64 (x5_1 + 2)) : Int).toNat ((wrap64 ((wrap64 (x5_1 + 2)) + 2)) : Int).toNat)).bind fun t355 => (if x353002_1.length < 17592186044416 then (intrusionref10_Decode.l0 k1 a0 (wrap64 ((wrap64 (x5_1 + 2)) + 2)) (IntKind.u64.wrap (t350)) (IntKind.u64.wrap (t351)) (x353002_1 ++ [Int.tmod t355 4096]) x353003_1 x353004_1) else (none))) else (none)) else (none)) else (none)))) else (if t353 < 1536 then (some (0, 0, ([] : List Int), 0, (⟨#[]⟩ : ByteArray), 2)) else (if 0 ≤ (wrap64 (x5_1 + 2)) then (some ((IntKind.u64.wrap (t350)), (IntKind.u64.wrap (t351)), x353002_1, t353, a0.extract ((wrap64 (x5_1 + 2)) : Int).toNat a0.size, 0)) else (none))))) = some (r1, r2, r3, r4, r5, r6) := H
         have A26 := As A260
         clear A260
         replace H := Option.bind_eq_some_iff.mp H
         obtain ⟨t354, A270, H⟩ := H
         replace H : (if t354 = true then (if (x353002_1.length : Int) = 2 then (some (0, 0, ([] : List Int), 0, (⟨#[]⟩ : ByteArray), 9)) else (if (wrap64 ((a0.size : Int) - (wrap64 (x5_1 + 2)))) < 2 then (some (0, 0, ([] : List Int), 0, (⟨#[]⟩ : ByteArray), 1)) else (if 0 ≤ (wrap64 (x5_1 + 2)) then (if (wrap64 (x5_1 + 2)) ≤ (wrap64 ((wrap64 (x5_1 + 2)) + 2)) then (if (wrap64 ((wrap64 (x5_1 + 2)) + 2)) ≤ (a0.size : Int) then ((intrusionref01_Value.f k1 (a0.extract ((wrap64 (x5_1 + 2)) : Int).toNat ((wrap64 ((wrap64 (x5_1 + 2)) + 2)) : Int).toNat)).bind fun t355 => (if x353002_1.length < 17592186044416 then (intrusionref10_Decode.l0 k1 a0 (wrap64 ((wrap64 (x5_1 + 2)) + 2)) (IntKind.u64.wrap (t350)) (IntKind.u64.wrap (t351)) (x353002_1 ++ [Int.tmod t355 4096]) x353003_1 x353004_1) else (none))) else (none)) else (none)) else (none)))) else (if t353 < 1536 then (some (0, 0, ([] : List Int), 0, (⟨#[]⟩ : ByteArray), 2)) else (if 0 ≤ (wrap64 (x5_1 + 2)) then (some ((IntKind.u64.wrap (t350)), (IntKind.u64.wrap (t351)), x353002_1, t353, a0.extract ((wrap64 (x5_1 + 2)) : Int).toNat a0.size, 0)) else (none)))) = some (r1, r2, r3, r4, r5, r6) := H
         have A27 := As A270
         clear A270
         by_cases c28 : t354 = true
         ·subst c28
          have H1 : (if (x353002_1.length : Int) = 2 then (some (0, 0, ([] : List Int), 0, (⟨#[]⟩ : ByteArray), 9)) else (if (wrap64 ((a0.size : Int) - (wrap64 (x5_1 + 2)))) < 2 then (some (0, 0, ([] : List Int), 0, (⟨#[]⟩ : ByteArray), 1)) else (if 0 ≤ (wrap64 (x5_1 + 2)) then (if (wrap64 (x5_1 + 2)) ≤ (wrap64 ((wrap64 (x5_1 + 2)) + 2)) then (if (wrap64 ((wrap64 (x5_1 + 2)) + 2)) ≤ (a0.size : Int) then ((intrusionref01_Value.f k1 (a0.extract ((wrap64 (x5_1 + 2)) : Int).toNat ((wrap64 ((wrap64 (x5_1 + 2)) + 2)) : Int).toNat)).bind fun t355 => (if x353002_1.length < 17592186044416 then (intrusionref10_Decode.l0 k1 a0 (wrap64 ((wrap64 (x5_1 + 2)) + 2)) (IntKind.u64.wrap (t350)) (IntKind.u64.wrap (t351)) (x353002_1 ++ [Int.tmod t355 4096]) x353003_1 x353004_1) else (none))) else (none)) else (none)) else (none)))) = some (r1, r2, r3, r4, r5, r6) := by rw [if_pos rfl] at H; exact H
          clear H
          have H := H1
          clear H1
          by_cases c29 : (x353002_1.length : Int) = 2
          ·rw [if_pos c29] at H
           have c29b0 : ((x353002_1.length : Int) == 2) = true := beq_iff_eq.mpr c29
           have c29b1 : ((x353002_1.length : Int) != 2) = false := bne_eq_false_iff_eq.mpr c29
           clear c29
           simp only [Option.some.injEq, Prod.mk.injEq] at H
           obtain ⟨rfl, rfl, rfl, rfl, rfl, rfl⟩ := H
           go_wp2_with (first | ((with_reducible refine gate_callee (f := 88) rfl ?_); refine goesL_ (some 31) rfl rfl Tryd.func88 (by kernel_rfl) rfl #[.string (a0.extract (x5_1 : Int).toNat ((wrap64 (x5_1 + 2)) : Int).toNat)] rfl kA ?_; (with_reducible refine (intrusionref01_Value.calls k1 (a0.extract (x5_1 : Int).toNat ((wrap64 (x5_1 + 2)) : Int).toNat) t353 _ A26.out).mono ?_); rintro e w' ⟨rfl, ⟨nd, rfl⟩⟩; refine ⟨_, rfl, ?_⟩; (try (rw [drewN_self wr]; generalize hq_ : World.drewN wr _ = wr; have n0_ : Aside0 (Kd.R (Kd.int .i64) 3 wr w.heap.size (fun _ => True) u353002 x353002_1) := ⟨by rw [← hq_]; exact (kR HO_353002.out)⟩; have n1_ : Aside0 (wr.heap[gb349]? = some (.cells #[.int .u64 x350000_1, .int .u64 x350001_1, .slice none 0 0, .int .i64 x350003_1, .string x350004_1] 80 (0, 0))) := ⟨by rw [← hq_]; exact (kb BK349.out)⟩; have n2_ : Aside0 (wr.heap[gb352]? = some (.cells #[.int .u64 (IntKind.u64.wrap (t350)), .int .u64 (IntKind.u64.wrap (t351)), u353002, .int .i64 x353003_1, .string x353004_1] 80 (0, 0))) := ⟨by rw [← hq_]; exact (kb BK352.out)⟩; have n3_ : Aside0 (Below w.heap.size w wr) := ⟨by rw [← hq_]; exact (kB2 HB.out GE349.out GE352.out)⟩; clear HO_353002 BK349 BK352 HB hq_; have HO_353002 := n0_; have BK349 := n1_; have BK352 := n2_; have HB := n3_; clear n0_ n1_ n2_ n3_))) | ((with_reducible refine gate_callee (f := 89) rfl ?_); refine goesL_ (some 35) rfl rfl Tryd.func89 (by kernel_rfl) rfl #[.int .i64 t353] rfl kA ?_; (with_reducible refine (intrusionref10_tag.calls t353 true _ A27.out).mono ?_); rintro e w' ⟨rfl, ⟨nd, rfl⟩⟩; refine ⟨_, rfl, ?_⟩; (try (rw [drewN_self wr]; generalize hq_ : World.drewN wr _ = wr; have n0_ : Aside0 (Kd.R (Kd.int .i64) 3 wr w.heap.size (fun _ => True) u353002 x353002_1) := ⟨by rw [← hq_]; exact (kR HO_353002.out)⟩; have n1_ : Aside0 (wr.heap[gb349]? = some (.cells #[.int .u64 x350000_1, .int .u64 x350001_1, .slice none 0 0, .int .i64 x350003_1, .string x350004_1] 80 (0, 0))) := ⟨by rw [← hq_]; exact (kb BK349.out)⟩; have n2_ : Aside0 (wr.heap[gb352]? = some (.cells #[.int .u64 (IntKind.u64.wrap (t350)), .int .u64 (IntKind.u64.wrap (t351)), u353002, .int .i64 x353003_1, .string x353004_1] 80 (0, 0))) := ⟨by rw [← hq_]; exact (kb BK352.out)⟩; have n3_ : Aside0 (Below w.heap.size w wr) := ⟨by rw [← hq_]; exact (kB2 HB.out GE349.out GE352.out)⟩; clear HO_353002 BK349 BK352 HB hq_; have HO_353002 := n0_; have BK349 := n1_; have BK352 := n2_; have HB := n3_; clear n0_ n1_ n2_ n3_)); have hnb30 := NB352_349.out; have hnc30 := NB349_352.out; have hcz31_0 := cells_5 BK352.out; have hfz31_0 := fun j_ => blk_frozen BK352.out j_; obtain ⟨Ao32, co32, eo32⟩ := Kd.R_slice HO_353002.out; subst eo32; have hcz33_0 := cells_5 BK349.out; have hfz33_0 := fun j_ => blk_frozen BK349.out j_))
           refine bodyPost_ret (results_ct rfl _ _ gb349 80 #[.int .u64 0, .int .u64 0, .slice none 0 0, .int .i64 0, .string (⟨#[]⟩ : ByteArray)] (0, 0) _ rfl (by refine kb ?_; exact blk_all_5 (kb BK349.out) (by rfl)) Tryd.underlying80 rfl (by kernel_rfl)) rfl ?_
           exact ⟨_, kE, by first | exact Kd.R_nil _ _ _ _ _ | exact Kd.N_nil _ _ _ _ _ | exact Kd.V_nil _ _ _ _ _ | exact Kd.Q_nil _ _ _ _ _ | exact Kd.S_nil _ _ _ _ _, by exact kB2 HB.out GE349.out GE352.out⟩
          rw [if_neg c29] at H
          have c29b0 : ((x353002_1.length : Int) == 2) = false := beq_eq_false_iff_ne.mpr c29
          have c29b1 : ((x353002_1.length : Int) != 2) = true := bne_iff_ne.mpr c29
          by_cases c34 : (wrap64 ((a0.size : Int) - (wrap64 (x5_1 + 2)))) < 2
          ·rw [if_pos c34] at H
           have c34b0 : decide ((wrap64 ((a0.size : Int) - (wrap64 (x5_1 + 2)))) < 2) = true := decide_eq_true c34
           clear c34
           simp only [Option.some.injEq, Prod.mk.injEq] at H
           obtain ⟨rfl, rfl, rfl, rfl, rfl, rfl⟩ := H
           go_wp2_with (first | ((with_reducible refine gate_callee (f := 88) rfl ?_); refine goesL_ (some 31) rfl rfl Tryd.func88 (by kernel_rfl) rfl #[.string (a0.extract (x5_1 : Int).toNat ((wrap64 (x5_1 + 2)) : Int).toNat)] rfl kA ?_; (with_reducible refine (intrusionref01_Value.calls k1 (a0.extract (x5_1 : Int).toNat ((wrap64 (x5_1 + 2)) : Int).toNat) t353 _ A26.out).mono ?_); rintro e w' ⟨rfl, ⟨nd, rfl⟩⟩; refine ⟨_, rfl, ?_⟩; (try (rw [drewN_self wr]; generalize hq_ : World.drewN wr _ = wr; have n0_ : Aside0 (Kd.R (Kd.int .i64) 3 wr w.heap.size (fun _ => True) u353002 x353002_1) := ⟨by rw [← hq_]; exact (kR HO_353002.out)⟩; have n1_ : Aside0 (wr.heap[gb349]? = some (.cells #[.int .u64 x350000_1, .int .u64 x350001_1, .slice none 0 0, .int .i64 x350003_1, .string x350004_1] 80 (0, 0))) := ⟨by rw [← hq_]; exact (kb BK349.out)⟩; have n2_ : Aside0 (wr.heap[gb352]? = some (.cells #[.int .u64 (IntKind.u64.wrap (t350)), .int .u64 (IntKind.u64.wrap (t351)), u353002, .int .i64 x353003_1, .string x353004_1] 80 (0, 0))) := ⟨by rw [← hq_]; exact (kb BK352.out)⟩; have n3_ : Aside0 (Below w.heap.size w wr) := ⟨by rw [← hq_]; exact (kB2 HB.out GE349.out GE352.out)⟩; clear HO_353002 BK349 BK352 HB hq_; have HO_353002 := n0_; have BK349 := n1_; have BK352 := n2_; have HB := n3_; clear n0_ n1_ n2_ n3_))) | ((with_reducible refine gate_callee (f := 89) rfl ?_); refine goesL_ (some 35) rfl rfl Tryd.func89 (by kernel_rfl) rfl #[.int .i64 t353] rfl kA ?_; (with_reducible refine (intrusionref10_tag.calls t353 true _ A27.out).mono ?_); rintro e w' ⟨rfl, ⟨nd, rfl⟩⟩; refine ⟨_, rfl, ?_⟩; (try (rw [drewN_self wr]; generalize hq_ : World.drewN wr _ = wr; have n0_ : Aside0 (Kd.R (Kd.int .i64) 3 wr w.heap.size (fun _ => True) u353002 x353002_1) := ⟨by rw [← hq_]; exact (kR HO_353002.out)⟩; have n1_ : Aside0 (wr.heap[gb349]? = some (.cells #[.int .u64 x350000_1, .int .u64 x350001_1, .slice none 0 0, .int .i64 x350003_1, .string x350004_1] 80 (0, 0))) := ⟨by rw [← hq_]; exact (kb BK349.out)⟩; have n2_ : Aside0 (wr.heap[gb352]? = some (.cells #[.int .u64 (IntKind.u64.wrap (t350)), .int .u64 (IntKind.u64.wrap (t351)), u353002, .int .i64 x353003_1, .string x353004_1] 80 (0, 0))) := ⟨by rw [← hq_]; exact (kb BK352.out)⟩; have n3_ : Aside0 (Below w.heap.size w wr) := ⟨by rw [← hq_]; exact (kB2 HB.out GE349.out GE352.out)⟩; clear HO_353002 BK349 BK352 HB hq_; have HO_353002 := n0_; have BK349 := n1_; have BK352 := n2_; have HB := n3_; clear n0_ n1_ n2_ n3_)); have hnb35 := NB352_349.out; have hnc35 := NB349_352.out; have hcz36_0 := cells_5 BK352.out; have hfz36_0 := fun j_ => blk_frozen BK352.out j_; obtain ⟨Ao37, co37, eo37⟩ := Kd.R_slice HO_353002.out; subst eo37; have hcz38_0 := cells_5 BK349.out; have hfz38_0 := fun j_ => blk_frozen BK349.out j_))
           refine bodyPost_ret (results_ct rfl _ _ gb349 80 #[.int .u64 0, .int .u64 0, .slice none 0 0, .int .i64 0, .string (⟨#[]⟩ : ByteArray)] (0, 0) _ rfl (by refine kb ?_; exact blk_all_5 (kb BK349.out) (by rfl)) Tryd.underlying80 rfl (by kernel_rfl)) rfl ?_
           exact ⟨_, kE, by first | exact Kd.R_nil _ _ _ _ _ | exact Kd.N_nil _ _ _ _ _ | exact Kd.V_nil _ _ _ _ _ | exact Kd.Q_nil _ _ _ _ _ | exact Kd.S_nil _ _ _ _ _, by exact kB2 HB.out GE349.out GE352.out⟩
          rw [if_neg c34] at H
          have c34b0 : decide ((wrap64 ((a0.size : Int) - (wrap64 (x5_1 + 2)))) < 2) = false := decide_eq_false c34
          clear c34
          obtain ⟨ji39, hji39⟩ : ∃ j_ : Int, (wrap64 (x5_1 + 2)) = j_ := ⟨_, rfl⟩
          replace H : (if 0 ≤ (ji39) then (if (ji39) ≤ (wrap64 ((ji39) + 2)) then (if (wrap64 ((ji39) + 2)) ≤ (a0.size : Int) then ((intrusionref01_Value.f k1 (a0.extract ((ji39) : Int).toNat ((wrap64 ((ji39) + 2)) : Int).toNat)).bind fun t355 => (if x353002_1.length < 17592186044416 then (intrusionref10_Decode.l0 k1 a0 (wrap64 ((ji39) + 2)) (IntKind.u64.wrap (t350)) (IntKind.u64.wrap (t351)) (x353002_1 ++ [Int.tmod t355 4096]) x353003_1 x353004_1) else (none))) else (none)) else (none)) else (none)) = some (r1, r2, r3, r4, r5, r6) := by first | (rw [hji39] at H; exact H) | (simp only [hji39] at H ⊢; exact H)
          (try rw [hji39] at c24b0)
          (try rw [hji39] at c24b1)
          (try rw [hji39] at c24)
          (try rw [hji39] at c25b0)
          (try rw [hji39] at c25b1)
          (try rw [hji39] at c25)
          (try rw [hji39] at c34b0)
          (try rw [hji39] at A26)
          (try rw [hji39] at A27)
          have hji39w : (IntKind.i64.wrap (x5_1 + 2)) = ji39 := (i64_w _).trans hji39
          by_cases c40 : 0 ≤ (ji39)
          ·rw [if_pos c40] at H
           have c40b0 := eq_true c40
           have c40b1 : decide (0 ≤ (ji39)) = true := decide_eq_true c40
           clear c40
           by_cases c41 : (ji39) ≤ (wrap64 ((ji39) + 2))
           ·rw [if_pos c41] at H
            have c41b0 := eq_true c41
            have c41b1 : decide ((ji39) ≤ (wrap64 ((ji39) + 2))) = true := decide_eq_true c41
            by_cases c42 : (wrap64 ((ji39) + 2)) ≤ (a0.size : Int)
            ·rw [if_pos c42] at H
             have c42b0 := eq_true c42
             have c42b1 : decide ((wrap64 ((ji39) + 2)) ≤ (a0.size : Int)) = true := decide_eq_true c42
             replace H := Option.bind_eq_some_iff.mp H
             obtain ⟨t355, A430, H⟩ := H
             replace H : (if x353002_1.length < 17592186044416 then (intrusionref10_Decode.l0 k1 a0 (wrap64 ((ji39) + 2)) (IntKind.u64.wrap (t350)) (IntKind.u64.wrap (t351)) (x353002_1 ++ [Int.tmod t355 4096]) x353003_1 x353004_1) else (none)) = some (r1, r2, r3, r4, r5, r6) := H
             have A43 := As A430
             clear A430
             by_cases c44 : x353002_1.length < 17592186044416
             ·rw [if_pos c44] at H
              have LMc44 := As c44
              clear c44
              obtain ⟨y356, hy356⟩ : ∃ y_ : List Int, y_ = (x353002_1 ++ [Int.tmod t355 4096]) := ⟨_, rfl⟩
              replace H : (intrusionref10_Decode.l0 k1 a0 (wrap64 ((ji39) + 2)) (IntKind.u64.wrap (t350)) (IntKind.u64.wrap (t351)) y356 x353003_1 x353004_1) = some (r1, r2, r3, r4, r5, r6) := by first | (rw [hy356]; with_reducible exact H) | (have H2_ := (Option.bind_some _ _).symm.trans H; rw [hy356]; with_reducible exact H2_) | (have H2_ := (Option.bind_some _ _).symm.trans H; with_reducible exact H2_) | with_reducible exact H | (rw [hy356]; exact H) | exact H
              have Ny356 := As hy356
              clear hy356
              have H' := As H
              clear H
              try go_wp2_with (first | ((with_reducible refine gate_callee (f := 88) rfl ?_); refine goesL_ (some 31) rfl rfl Tryd.func88 (by kernel_rfl) rfl #[.string (a0.extract (x5_1 : Int).toNat ((ji39) : Int).toNat)] rfl (by (try simp only [List.map_toArray, List.map_cons, List.map_nil]); first | done | (simp only [hji39]; rfl) | rfl | (simp only [List.length_drop, List.length_take]; rfl)) ?_; (with_reducible refine (intrusionref01_Value.calls k1 (a0.extract (x5_1 : Int).toNat ((ji39) : Int).toNat) t353 _ A26.out).mono ?_); rintro e w' ⟨rfl, ⟨nd, rfl⟩⟩; refine ⟨_, rfl, ?_⟩; (try (rw [drewN_self wr]; generalize hq_ : World.drewN wr _ = wr; have n0_ : Aside0 (Kd.R (Kd.int .i64) 3 wr w.heap.size (fun _ => True) u353002 x353002_1) := ⟨by rw [← hq_]; exact (kR HO_353002.out)⟩; have n1_ : Aside0 (wr.heap[gb349]? = some (.cells #[.int .u64 x350000_1, .int .u64 x350001_1, .slice none 0 0, .int .i64 x350003_1, .string x350004_1] 80 (0, 0))) := ⟨by rw [← hq_]; exact (kb BK349.out)⟩; have n2_ : Aside0 (wr.heap[gb352]? = some (.cells #[.int .u64 (IntKind.u64.wrap (t350)), .int .u64 (IntKind.u64.wrap (t351)), u353002, .int .i64 x353003_1, .string x353004_1] 80 (0, 0))) := ⟨by rw [← hq_]; exact (kb BK352.out)⟩; have n3_ : Aside0 (Below w.heap.size w wr) := ⟨by rw [← hq_]; exact (kB2 HB.out GE349.out GE352.out)⟩; clear HO_353002 BK349 BK352 HB hq_; have HO_353002 := n0_; have BK349 := n1_; have BK352 := n2_; have HB := n3_; clear n0_ n1_ n2_ n3_))) | ((with_reducible refine gate_callee (f := 89) rfl ?_); refine goesL_ (some 35) rfl rfl Tryd.func89 (by kernel_rfl) rfl #[.int .i64 t353] rfl kA ?_; (with_reducible refine (intrusionref10_tag.calls t353 true _ A27.out).mono ?_); rintro e w' ⟨rfl, ⟨nd, rfl⟩⟩; refine ⟨_, rfl, ?_⟩; (try (rw [drewN_self wr]; generalize hq_ : World.drewN wr _ = wr; have n0_ : Aside0 (Kd.R (Kd.int .i64) 3 wr w.heap.size (fun _ => True) u353002 x353002_1) := ⟨by rw [← hq_]; exact (kR HO_353002.out)⟩; have n1_ : Aside0 (wr.heap[gb349]? = some (.cells #[.int .u64 x350000_1, .int .u64 x350001_1, .slice none 0 0, .int .i64 x350003_1, .string x350004_1] 80 (0, 0))) := ⟨by rw [← hq_]; exact (kb BK349.out)⟩; have n2_ : Aside0 (wr.heap[gb352]? = some (.cells #[.int .u64 (IntKind.u64.wrap (t350)), .int .u64 (IntKind.u64.wrap (t351)), u353002, .int .i64 x353003_1, .string x353004_1] 80 (0, 0))) := ⟨by rw [← hq_]; exact (kb BK352.out)⟩; have n3_ : Aside0 (Below w.heap.size w wr) := ⟨by rw [← hq_]; exact (kB2 HB.out GE349.out GE352.out)⟩; clear HO_353002 BK349 BK352 HB hq_; have HO_353002 := n0_; have BK349 := n1_; have BK352 := n2_; have HB := n3_; clear n0_ n1_ n2_ n3_)); have hnb45 := NB352_349.out; have hnc45 := NB349_352.out; have hcz46_0 := cells_5 BK352.out; have hfz46_0 := fun j_ => blk_frozen BK352.out j_; obtain ⟨Ao47, co47, eo47⟩ := Kd.R_slice HO_353002.out; subst eo47))
              replace HO_353002 := As (Kd.R_drew HO_353002.out)
              replace BK349 := As (blk_drew BK349.out)
              replace BK352 := As (blk_drew BK352.out)
              replace HB := As (below_drew1 HB.out)
              refine start_ (n := 13) (S := fun w' => w'.cell? ⟨gb352, 0, none⟩ = some (.int .u64 (IntKind.u64.wrap (t350))) ∧ w'.cell? ⟨gb352, 1, none⟩ = some (.int .u64 (IntKind.u64.wrap (t351))) ∧ w'.cell? ⟨gb352, 2, none⟩ = some (.slice Ao47 x353002_1.length co47) ∧ w'.cell? ⟨gb352, 3, none⟩ = some (.int .i64 x353003_1) ∧ w'.cell? ⟨gb352, 4, none⟩ = some (.string x353004_1)) (ds := [12]) #[O, O, O, O, O, O, O, O, O, O, O, O, O] (by kernel_rfl) rfl rfl ⟨kC BK352.out 0, kC BK352.out 1, kC BK352.out 2, kC BK352.out 3, kC BK352.out 4⟩ (fun hHeld => ?_); refine with_tabW intrusionref10_Decode.tab19 intrusionref10_Decode.bits19 (fun HT_ HW_ => ?_)
              generalize wr.drew = w48 at HO_353002 BK349 BK352 HB hHeld ⊢
              refine kP 0 58 #[I, O, O, O, O, O, O, O, O, O, O, O, O] ?_ (any_of HT_.out (by kernel_rfl))
              refine kP 2 60 #[I, O, I, O, O, O, O, O, O, O, O, O, O] ?_ (any_of HT_.out (by kernel_rfl))
              refine kP 3 61 #[I, O, I, I, O, O, O, O, O, O, O, O, O] ?_ (any_of HT_.out (by kernel_rfl))
              refine kP 4 62 #[I, O, I, I, I, O, O, O, O, O, O, O, O] ?_ (any_of HT_.out (by kernel_rfl))
              refine kP 5 63 #[I, O, I, I, I, I, O, O, O, O, O, O, O] ?_ (any_of HT_.out (by kernel_rfl))
              refine kP 6 64 #[I, O, I, I, I, I, I, O, O, O, O, O, O] ?_ (any_of HT_.out (by kernel_rfl))
              refine take_ (i := 1) (N := some 59) (v := ?_) (a' := ?_) #[I, I, I, I, I, I, I, O, O, O, O, O, O] rfl rfl (take_ofW HT_.out HW_.out (by kernel_rfl)) (fun _ _ _ h => h) (Or.inl ⟨by rfl, ?_⟩) hHeld ?_ ?_
              rotate_left
              ·rintro w' ⟨s0, s1, s2, s3, s4⟩
               go_simp
               with_reducible rfl
              rotate_left
              ·simp only [Act.put, sA, sZ, sS, i64_w, i32_w]
               rfl
              refine one_ (i := 7) (N := some 65) #[I, I, I, I, I, I, I, I, O, O, O, O, O] rfl rfl (one_of HT_.out (by kernel_rfl)) (by decide) (fun K hK => ?_)
              refine goes_ Tryd.func88 (by kernel_rfl) rfl #[.string (a0.extract ((ji39) : Int).toNat ((wrap64 ((ji39) + 2)) : Int).toNat)] (by rfl) rfl rfl (by (try simp only [List.map_toArray, List.map_cons, List.map_nil]); first | done | (simp only [hji39]; rfl) | rfl | (simp only [List.length_drop, List.length_take]; rfl)) ?_
              with_reducible refine (intrusionref01_Value.calls k1 (a0.extract ((ji39) : Int).toNat ((wrap64 ((ji39) + 2)) : Int).toNat) t355 _ A43.out).mono ?_
              rintro e w' ⟨rfl, ⟨nd, rfl⟩⟩
              refine ⟨_, rfl, ?_⟩
              refine hK.out _ _ ⟨kC BK352.out 0, kC BK352.out 1, kC BK352.out 2, kC BK352.out 3, kC BK352.out 4⟩ (fun hHeld => ?_)
              clear hK K
              refine norm_ (a' := ?_) ?_ ?_
              rotate_left
              ·show Act.put _ (some 65) _ = _
               simp only [Act.put, sA, sZ, sS, i64_w, i32_w]
               rfl
              refine kP 8 66 #[I, I, I, I, I, I, I, I, I, O, O, O, O] ?_ (any_of HT_.out (by kernel_rfl))
              refine one_ (i := 9) (N := some 67) #[I, I, I, I, I, I, I, I, I, I, O, O, O] rfl rfl (one_of HT_.out (by kernel_rfl)) (by decide) (fun K hK => ?_)
              refine value_ (w1 := ?_) (v := ?_) (by rfl) rfl ?_ ?_
              rotate_left 2
              ·go_simp
               constructor
               ·rfl
               rfl
              refine hK.out _ _ ⟨(blk_cell (blk_alloc BK352.out _) 0).trans rfl, (blk_cell (blk_alloc BK352.out _) 1).trans rfl, (blk_cell (blk_alloc BK352.out _) 2).trans rfl, (blk_cell (blk_alloc BK352.out _) 3).trans rfl, (blk_cell (blk_alloc BK352.out _) 4).trans rfl⟩ (fun hHeld => ?_)
              clear hK K
              refine norm_ (a' := ?_) ?_ ?_
              rotate_left
              ·show Act.put _ (some 67) _ = _
               simp only [Act.put, sA, sZ, sS, i64_w, i32_w]
               rfl
              refine one_ (i := 10) (N := some 68) #[I, I, I, I, I, I, I, I, I, I, I, O, O] rfl rfl (one_of HT_.out (by kernel_rfl)) (by decide) (fun K hK => ?_)
              refine Kd.R_append_step (Kd.int .i64) (w0 := w) w.heap.size (by rfl) (.tmp 59) (.tmp 67) 78 3 (.int .i64 0) 8 rfl Tryd.underlying78 info3 rfl (by decide) (by omega) (.slice Ao47 x353002_1.length co47) x353002_1 (Int.tmod t355 4096) [.int .i64 (Int.tmod t355 4096)] (fun _ => True) (fun _ => False) rfl rfl ?aP (fun _ hk => hk.elim) ?aF ?aO ?aB ?aS ?aL ?_
              (case aP => exact rfl)
              (case aB => exact (kB2 HB.out GE349.out GE352.out))
              (case aF => exact (fun _ _ => trivial))
              (case aO => exact (kR HO_353002.out))
              (case aS => exact (below_size (kB2 HB.out GE349.out GE352.out)))
              (case aL => have := LMc44.out; omega)
              intro v357 w49 ho hb hg hat
              rw [← Ny356.out] at ho
              replace BK349 := As (blk_grown (kb BK349.out) hg (Kd.R_ne HO_353002.out BK349.out (by decide)))
              replace BK352 := As (blk_grown (kb BK352.out) hg (Kd.R_ne HO_353002.out BK352.out (by decide)))
              replace HB := As (hb)
              have HO358 := As (ho)
              clear HO_353002
              clear ho hb hg hat
              obtain ⟨Ao50, co50, eo50⟩ := Kd.R_slice HO358.out
              (first | subst eo50 | (injection eo50 with f1_ f2_ f3_; have f4_ := f1_.symm; have f5_ := f3_.symm; clear f1_ f2_ f3_; subst f4_; subst f5_))
              refine hK.out _ _ ⟨kC BK352.out 0, kC BK352.out 1, kC BK352.out 2, kC BK352.out 3, kC BK352.out 4⟩ (fun hHeld => ?_)
              clear hK K
              refine norm_ (a' := ?_) ?_ ?_
              rotate_left
              ·show Act.put _ (some 68) _ = _
               simp only [Act.put, sA, sZ, sS, i64_w, i32_w]
               rfl
              refine kP 11 69 #[I, I, I, I, I, I, I, I, I, I, I, I, O] ?_ (any_of HT_.out (by kernel_rfl))
              refine last_ (i := 12) (N := none) #[I, I, I, I, I, I, I, I, I, I, I, I, I] rfl rfl (one_of HT_.out (by kernel_rfl)) (by decide) (fun K hK => ?_)
              have hs51 : w49.cell? ⟨gb352, 2, none⟩ = some (.slice Ao47 x353002_1.length co47) := (blk_cell BK352.out 2).trans rfl
              have hfs51 := blk_frozen BK352.out 2
              have hns51_0 := NB349_352.out
              have hms51_0 := NB352_349.out
              refine skip_ (w1 := ?_) (by rfl) rfl ?_ ?_
              rotate_left
              ·go_simp
               rfl
              refine hK.out _ _ ?_
              clear hK K
              refine done_ (done_of HT_.out (by kernel_rfl)) ?_
              try go_wp2
              go_roundg k1
              case measure => have := HK1.out; omega
              case rel => exact ⟨(wrap64 ((ji39) + 2)), (x350000_1), (x350001_1), (x350003_1), (x350004_1), (y356), (x353003_1), (x353004_1), (.slice Ao50 y356.length co50), (by first | rfl | (simp; done) | (simp only [← hji39] <;> (first | rfl | simp)) | (simp [*]; done)), H', ⟨by have := HK1.out; omega⟩, ⟨by (with_reducible repeat (first | apply Kd.R_alloc | apply Kd.R_drewN | apply Kd.R_drew)); exact Kd.R_mono (Kd.R_far (p := ⟨gb352, 2, none⟩) (Kd.R_types HO358.out BK352.out (by decide)) (fun _ hk => hk.2) (.slice Ao50 y356.length co50)) (fun _ hk => trivial)⟩, ⟨by refine kb ?_; refine blk_far ?_ NB349_352.out _; exact kb BK349.out⟩, ⟨by refine kb ?_; refine blk_put (cs := #[.int .u64 (IntKind.u64.wrap (t350)), .int .u64 (IntKind.u64.wrap (t351)), .slice Ao47 x353002_1.length co47, .int .i64 x353003_1, .string x353004_1]) ?_ 2 _ rfl; exact kb BK352.out⟩, ⟨kB2 HB.out GE349.out GE352.out⟩⟩
             rw [if_neg c44] at H
             exact absurd H (by simp)
            rw [if_neg c42] at H
            exact absurd H (by simp)
           rw [if_neg c41] at H
           exact absurd H (by simp)
          rw [if_neg c40] at H
          exact absurd H (by simp)
         replace c28 := Bool.eq_false_iff.mpr c28
         subst c28
         have H1 : (if t353 < 1536 then (some (0, 0, ([] : List Int), 0, (⟨#[]⟩ : ByteArray), 2)) else (if 0 ≤ (wrap64 (x5_1 + 2)) then (some ((IntKind.u64.wrap (t350)), (IntKind.u64.wrap (t351)), x353002_1, t353, a0.extract ((wrap64 (x5_1 + 2)) : Int).toNat a0.size, 0)) else (none))) = some (r1, r2, r3, r4, r5, r6) := by rw [if_neg (show ¬ (false = true) by decide)] at H; exact H
         clear H
         have H := H1
         clear H1
         by_cases c52 : t353 < 1536
         ·rw [if_pos c52] at H
          have c52b0 : decide (t353 < 1536) = true := decide_eq_true c52
          clear c52
          simp only [Option.some.injEq, Prod.mk.injEq] at H
          obtain ⟨rfl, rfl, rfl, rfl, rfl, rfl⟩ := H
          go_wp2_with (first | ((with_reducible refine gate_callee (f := 88) rfl ?_); refine goesL_ (some 31) rfl rfl Tryd.func88 (by kernel_rfl) rfl #[.string (a0.extract (x5_1 : Int).toNat ((wrap64 (x5_1 + 2)) : Int).toNat)] rfl kA ?_; (with_reducible refine (intrusionref01_Value.calls k1 (a0.extract (x5_1 : Int).toNat ((wrap64 (x5_1 + 2)) : Int).toNat) t353 _ A26.out).mono ?_); rintro e w' ⟨rfl, ⟨nd, rfl⟩⟩; refine ⟨_, rfl, ?_⟩; (try (rw [drewN_self wr]; generalize hq_ : World.drewN wr _ = wr; have n0_ : Aside0 (Kd.R (Kd.int .i64) 3 wr w.heap.size (fun _ => True) u353002 x353002_1) := ⟨by rw [← hq_]; exact (kR HO_353002.out)⟩; have n1_ : Aside0 (wr.heap[gb349]? = some (.cells #[.int .u64 x350000_1, .int .u64 x350001_1, .slice none 0 0, .int .i64 x350003_1, .string x350004_1] 80 (0, 0))) := ⟨by rw [← hq_]; exact (kb BK349.out)⟩; have n2_ : Aside0 (wr.heap[gb352]? = some (.cells #[.int .u64 (IntKind.u64.wrap (t350)), .int .u64 (IntKind.u64.wrap (t351)), u353002, .int .i64 x353003_1, .string x353004_1] 80 (0, 0))) := ⟨by rw [← hq_]; exact (kb BK352.out)⟩; have n3_ : Aside0 (Below w.heap.size w wr) := ⟨by rw [← hq_]; exact (kB2 HB.out GE349.out GE352.out)⟩; clear HO_353002 BK349 BK352 HB hq_; have HO_353002 := n0_; have BK349 := n1_; have BK352 := n2_; have HB := n3_; clear n0_ n1_ n2_ n3_))) | ((with_reducible refine gate_callee (f := 89) rfl ?_); refine goesL_ (some 35) rfl rfl Tryd.func89 (by kernel_rfl) rfl #[.int .i64 t353] rfl kA ?_; (with_reducible refine (intrusionref10_tag.calls t353 false _ A27.out).mono ?_); rintro e w' ⟨rfl, ⟨nd, rfl⟩⟩; refine ⟨_, rfl, ?_⟩; (try (rw [drewN_self wr]; generalize hq_ : World.drewN wr _ = wr; have n0_ : Aside0 (Kd.R (Kd.int .i64) 3 wr w.heap.size (fun _ => True) u353002 x353002_1) := ⟨by rw [← hq_]; exact (kR HO_353002.out)⟩; have n1_ : Aside0 (wr.heap[gb349]? = some (.cells #[.int .u64 x350000_1, .int .u64 x350001_1, .slice none 0 0, .int .i64 x350003_1, .string x350004_1] 80 (0, 0))) := ⟨by rw [← hq_]; exact (kb BK349.out)⟩; have n2_ : Aside0 (wr.heap[gb352]? = some (.cells #[.int .u64 (IntKind.u64.wrap (t350)), .int .u64 (IntKind.u64.wrap (t351)), u353002, .int .i64 x353003_1, .string x353004_1] 80 (0, 0))) := ⟨by rw [← hq_]; exact (kb BK352.out)⟩; have n3_ : Aside0 (Below w.heap.size w wr) := ⟨by rw [← hq_]; exact (kB2 HB.out GE349.out GE352.out)⟩; clear HO_353002 BK349 BK352 HB hq_; have HO_353002 := n0_; have BK349 := n1_; have BK352 := n2_; have HB := n3_; clear n0_ n1_ n2_ n3_)); have hnb53 := NB349_352.out; have hnc53 := NB352_349.out; have hcz54_0 := cells_5 BK349.out; have hfz54_0 := fun j_ => blk_frozen BK349.out j_))
          refine bodyPost_ret (results_ct rfl _ _ gb349 80 #[.int .u64 0, .int .u64 0, .slice none 0 0, .int .i64 0, .string (⟨#[]⟩ : ByteArray)] (0, 0) _ rfl (by refine kb ?_; exact blk_all_5 (kb BK349.out) (by rfl)) Tryd.underlying80 rfl (by kernel_rfl)) rfl ?_
          exact ⟨_, kE, by first | exact Kd.R_nil _ _ _ _ _ | exact Kd.N_nil _ _ _ _ _ | exact Kd.V_nil _ _ _ _ _ | exact Kd.Q_nil _ _ _ _ _ | exact Kd.S_nil _ _ _ _ _, by exact kB2 HB.out GE349.out GE352.out⟩
         rw [if_neg c52] at H
         have c52b0 : decide (t353 < 1536) = false := decide_eq_false c52
         clear c52
         obtain ⟨ji55, hji55⟩ : ∃ j_ : Int, (wrap64 (x5_1 + 2)) = j_ := ⟨_, rfl⟩
         replace H : (if 0 ≤ (ji55) then (some ((IntKind.u64.wrap (t350)), (IntKind.u64.wrap (t351)), x353002_1, t353, a0.extract ((ji55) : Int).toNat a0.size, 0)) else (none)) = some (r1, r2, r3, r4, r5, r6) := by first | (rw [hji55] at H; exact H) | (simp only [hji55] at H ⊢; exact H)
         (try rw [hji55] at c24b0)
         (try rw [hji55] at c24b1)
         (try rw [hji55] at c24)
         (try rw [hji55] at c25b0)
         (try rw [hji55] at c25b1)
         (try rw [hji55] at c25)
         (try rw [hji55] at A26)
         (try rw [hji55] at A27)
         have hji55w : (IntKind.i64.wrap (x5_1 + 2)) = ji55 := (i64_w _).trans hji55
         by_cases c56 : 0 ≤ (ji55)
         ·rw [if_pos c56] at H
          have c56b0 := eq_true c56
          have c56b1 : decide (0 ≤ (ji55)) = true := decide_eq_true c56
          clear c56
          have c57b0 := eq_true (of_decide_eq_true (by first | (with_reducible assumption) | assumption) : (ji55) ≤ (a0.size : Int))
          simp only [Option.some.injEq, Prod.mk.injEq] at H
          obtain ⟨rfl, rfl, rfl, rfl, rfl, rfl⟩ := H
          go_wp2_with (first | ((with_reducible refine gate_callee (f := 88) rfl ?_); refine goesL_ (some 31) rfl rfl Tryd.func88 (by kernel_rfl) rfl #[.string (a0.extract (x5_1 : Int).toNat ((ji55) : Int).toNat)] rfl (by (try simp only [List.map_toArray, List.map_cons, List.map_nil]); first | done | (simp only [hji55]; rfl) | rfl | (simp only [List.length_drop, List.length_take]; rfl)) ?_; (with_reducible refine (intrusionref01_Value.calls k1 (a0.extract (x5_1 : Int).toNat ((ji55) : Int).toNat) t353 _ A26.out).mono ?_); rintro e w' ⟨rfl, ⟨nd, rfl⟩⟩; refine ⟨_, rfl, ?_⟩; (try (rw [drewN_self wr]; generalize hq_ : World.drewN wr _ = wr; have n0_ : Aside0 (Kd.R (Kd.int .i64) 3 wr w.heap.size (fun _ => True) u353002 x353002_1) := ⟨by rw [← hq_]; exact (kR HO_353002.out)⟩; have n1_ : Aside0 (wr.heap[gb349]? = some (.cells #[.int .u64 x350000_1, .int .u64 x350001_1, .slice none 0 0, .int .i64 x350003_1, .string x350004_1] 80 (0, 0))) := ⟨by rw [← hq_]; exact (kb BK349.out)⟩; have n2_ : Aside0 (wr.heap[gb352]? = some (.cells #[.int .u64 (IntKind.u64.wrap (t350)), .int .u64 (IntKind.u64.wrap (t351)), u353002, .int .i64 x353003_1, .string x353004_1] 80 (0, 0))) := ⟨by rw [← hq_]; exact (kb BK352.out)⟩; have n3_ : Aside0 (Below w.heap.size w wr) := ⟨by rw [← hq_]; exact (kB2 HB.out GE349.out GE352.out)⟩; clear HO_353002 BK349 BK352 HB hq_; have HO_353002 := n0_; have BK349 := n1_; have BK352 := n2_; have HB := n3_; clear n0_ n1_ n2_ n3_))) | ((with_reducible refine gate_callee (f := 89) rfl ?_); refine goesL_ (some 35) rfl rfl Tryd.func89 (by kernel_rfl) rfl #[.int .i64 t353] rfl kA ?_; (with_reducible refine (intrusionref10_tag.calls t353 false _ A27.out).mono ?_); rintro e w' ⟨rfl, ⟨nd, rfl⟩⟩; refine ⟨_, rfl, ?_⟩; (try (rw [drewN_self wr]; generalize hq_ : World.drewN wr _ = wr; have n0_ : Aside0 (Kd.R (Kd.int .i64) 3 wr w.heap.size (fun _ => True) u353002 x353002_1) := ⟨by rw [← hq_]; exact (kR HO_353002.out)⟩; have n1_ : Aside0 (wr.heap[gb349]? = some (.cells #[.int .u64 x350000_1, .int .u64 x350001_1, .slice none 0 0, .int .i64 x350003_1, .string x350004_1] 80 (0, 0))) := ⟨by rw [← hq_]; exact (kb BK349.out)⟩; have n2_ : Aside0 (wr.heap[gb352]? = some (.cells #[.int .u64 (IntKind.u64.wrap (t350)), .int .u64 (IntKind.u64.wrap (t351)), u353002, .int .i64 x353003_1, .string x353004_1] 80 (0, 0))) := ⟨by rw [← hq_]; exact (kb BK352.out)⟩; have n3_ : Aside0 (Below w.heap.size w wr) := ⟨by rw [← hq_]; exact (kB2 HB.out GE349.out GE352.out)⟩; clear HO_353002 BK349 BK352 HB hq_; have HO_353002 := n0_; have BK349 := n1_; have BK352 := n2_; have HB := n3_; clear n0_ n1_ n2_ n3_)); have hnb58 := NB352_349.out; have hnc58 := NB349_352.out; have hcz59_0 := cells_5 BK352.out; have hfz59_0 := fun j_ => blk_frozen BK352.out j_; have hcz60_0 := cells_5 BK349.out; have hfz60_0 := fun j_ => blk_frozen BK349.out j_; obtain ⟨Ao61, co61, eo61⟩ := Kd.R_slice HO_353002.out; subst eo61))
          refine bodyPost_ret (results_ct rfl _ _ gb349 80 #[.int .u64 (IntKind.u64.wrap (t350)), .int .u64 (IntKind.u64.wrap (t351)), .slice Ao61 x353002_1.length co61, .int .i64 t353, .string (a0.extract ((ji55) : Int).toNat a0.size)] (0, 0) _ rfl (by refine kb ?_; refine blk_all_5 (cs := #[.int .u64 x350000_1, .int .u64 x350001_1, .slice none 0 0, .int .i64 x350003_1, .string x350004_1]) ?_ rfl; refine kb ?_; refine blk_far ?_ NB349_352.out _; refine kb ?_; refine blk_far ?_ NB349_352.out _; exact kb BK349.out) Tryd.underlying80 rfl (by kernel_rfl)) rfl ?_
          exact ⟨_, by first | rfl | (simp [errW_none, errW_some] <;> rfl) | (simp only [← hji55]; first | rfl | (simp [errW_none, errW_some] <;> rfl)) | (simp [*, errW_none, errW_some] <;> rfl), by (with_reducible repeat (first | apply Kd.R_alloc | apply Kd.R_drewN | apply Kd.R_drew)); exact Kd.R_mono (Kd.R_puts_0_5 gb349 (.int .u64 (IntKind.u64.wrap (t350))) (.int .u64 (IntKind.u64.wrap (t351))) (.slice Ao61 x353002_1.length co61) (.int .i64 t353) (.string (a0.extract ((ji55) : Int).toNat a0.size)) (Kd.R_far (p := ⟨gb352, 4, none⟩) (Kd.R_far (p := ⟨gb352, 3, none⟩) (Kd.R_types (Kd.R_types HO_353002.out BK352.out (by decide)) BK349.out (by decide)) (fun _ hk => hk.1.2) (.int .i64 t353)) (fun _ hk => hk.1.2) (.string (a0.extract ((ji55) : Int).toNat a0.size))) (fun _ hk => hk.2)) (fun _ hk => trivial), by exact kB2 HB.out GE349.out GE352.out⟩
         rw [if_neg c56] at H
         exact absurd H (by simp)
        rw [if_neg c25] at H
        exact absurd H (by simp)
       rw [if_neg c24] at H
       exact absurd H (by simp)
      rw [if_neg c23] at H
      exact absurd H (by simp)
    rw [if_neg c9] at H
    exact absurd H (by simp)
   rw [if_neg c8] at H
   exact absurd H (by simp)
  rw [if_neg c6] at H
  exact absurd H (by simp)
 rw [if_neg c5] at H
 exact absurd H (by simp)

/-! ### intrusionref17_kindOf: function 50 -/
def intrusionref17_kindOf.f (a0 : Int) : Option (Int) := if a0 = 2048 then (some 1) else (if a0 = 34525 then (some 2) else (if a0 = 25944 then (some 3) else (some 0)))
set_option maxHeartbeats 8000000 in
set_option maxRecDepth 100000 in
theorem intrusionref17_kindOf.calls (a0 : Int) (r : Int) (w : World) (h : intrusionref17_kindOf.f a0 = some r) :
  Calls Tryd.prog 50 #[.int .i64 a0] w fun e w' => e = .returned (.int .i64 r) ∧ Drawn0 w w' := by
 have H : (if a0 = 2048 then (some 1) else (if a0 = 34525 then (some 2) else (if a0 = 25944 then (some 3) else (some 0)))) = some r := h
 clear h
 by_cases c2 : a0 = 2048
 ·rw [if_pos c2] at H
  have c2b0 : (a0 == 2048) = true := beq_iff_eq.mpr c2
  have c2b1 : (a0 != 2048) = false := bne_eq_false_iff_eq.mpr c2
  clear c2
  obtain rfl := Option.some.inj H
  go_enter Tryd.func50, Tryd.ntmps50
  go_wp2
  go_ret
  exact ⟨by first | rfl | (simp; done) | (simp [*]; done), by repeat (first | exact Drawn0.refl _ | apply Drawn0.step)⟩
 rw [if_neg c2] at H
 have c2b0 : (a0 == 2048) = false := beq_eq_false_iff_ne.mpr c2
 have c2b1 : (a0 != 2048) = true := bne_iff_ne.mpr c2
 by_cases c3 : a0 = 34525
 ·rw [if_pos c3] at H
  have c3b0 : (a0 == 34525) = true := beq_iff_eq.mpr c3
  have c3b1 : (a0 != 34525) = false := bne_eq_false_iff_eq.mpr c3
  clear c3
  obtain rfl := Option.some.inj H
  go_enter Tryd.func50, Tryd.ntmps50
  go_wp2
  go_ret
  exact ⟨by first | rfl | (simp; done) | (simp [*]; done), by repeat (first | exact Drawn0.refl _ | apply Drawn0.step)⟩
 rw [if_neg c3] at H
 have c3b0 : (a0 == 34525) = false := beq_eq_false_iff_ne.mpr c3
 have c3b1 : (a0 != 34525) = true := bne_iff_ne.mpr c3
 by_cases c4 : a0 = 25944
 ·rw [if_pos c4] at H
  have c4b0 : (a0 == 25944) = true := beq_iff_eq.mpr c4
  have c4b1 : (a0 != 25944) = false := bne_eq_false_iff_eq.mpr c4
  clear c4
  obtain rfl := Option.some.inj H
  go_enter Tryd.func50, Tryd.ntmps50
  go_wp2
  go_ret
  exact ⟨by first | rfl | (simp; done) | (simp [*]; done), by repeat (first | exact Drawn0.refl _ | apply Drawn0.step)⟩
 rw [if_neg c4] at H
 have c4b0 : (a0 == 25944) = false := beq_eq_false_iff_ne.mpr c4
 have c4b1 : (a0 != 25944) = true := bne_iff_ne.mpr c4
 obtain rfl := Option.some.inj H
 go_enter Tryd.func50, Tryd.ntmps50
 go_wp2
 go_ret
 exact ⟨by first | rfl | (simp; done) | (simp [*]; done), by repeat (first | exact Drawn0.refl _ | apply Drawn0.step)⟩

/-! ### intrusionref17_Frame: function 22 -/
def intrusionref17_Frame.f (k : Nat) (a0 : ByteArray) : Option (Int × ByteArray × Int) := (intrusionref10_Decode.f k a0).bind fun bt359 => (if bt359.2.2.2.2.2 = 0 then ((intrusionref17_kindOf.f bt359.2.2.2.1).bind fun t368 => (if t368 = 3 then (some (0, bt359.2.2.2.2.1, 0)) else (some (t368, bt359.2.2.2.2.1, 0)))) else (some (0, (⟨#[]⟩ : ByteArray), bt359.2.2.2.2.2)))
theorem intrusionref17_Frame.mono : ∀ a0 k, LeO (intrusionref17_Frame.f k a0) (intrusionref17_Frame.f (k + 1) a0) := by
 intro a0 k
 unfold intrusionref17_Frame.f
 repeat' first | with_reducible first | apply intrusionref10_Decode.mono | apply LeO.refl | apply LeO.none | refine LeO.ite ?_ ?_ | refine LeO.bind ?_ (fun _ => ?_)
set_option maxHeartbeats 8000000 in
set_option maxRecDepth 100000 in
theorem intrusionref17_Frame.calls (k : Nat) (a0 : ByteArray) (r1 : Int) (r2 : ByteArray) (r3 : Int) (w : World) (h : intrusionref17_Frame.f k a0 = some (r1, r2, r3)) :
  Calls Tryd.prog 22 #[.string a0] w fun e w' => e = .returned (.tuple #[.int .i64 r1, .string r2, .int .i64 r3]) ∧ Below w.heap.size w w' := by
 have hu80 := Tryd.underlying80
 have HB := As (Below.refl w.heap.size w)
 have H : ((intrusionref10_Decode.f k a0).bind fun bt359 => (if bt359.2.2.2.2.2 = 0 then ((intrusionref17_kindOf.f bt359.2.2.2.1).bind fun t368 => (if t368 = 3 then (some (0, bt359.2.2.2.2.1, 0)) else (some (t368, bt359.2.2.2.2.1, 0)))) else (some (0, (⟨#[]⟩ : ByteArray), bt359.2.2.2.2.2)))) = some (r1, r2, r3) := h
 clear h
 replace H := Option.bind_eq_some_iff.mp H
 obtain ⟨⟨t359, t360, t361, t364, t365, t366⟩, A20, H⟩ := H
 replace H : (if t366 = 0 then ((intrusionref17_kindOf.f t364).bind fun t368 => (if t368 = 3 then (some (0, t365, 0)) else (some (t368, t365, 0)))) else (some (0, (⟨#[]⟩ : ByteArray), t366))) = some (r1, r2, r3) := H
 have A2 := As A20
 clear A20
 by_cases c3 : t366 = 0
 ·rw [if_pos c3] at H
  have c3b0 : (t366 == 0) = true := beq_iff_eq.mpr c3
  have c3b1 : (t366 != 0) = false := bne_eq_false_iff_eq.mpr c3
  clear c3
  replace H := Option.bind_eq_some_iff.mp H
  obtain ⟨t368, A40, H⟩ := H
  replace H : (if t368 = 3 then (some (0, t365, 0)) else (some (t368, t365, 0))) = some (r1, r2, r3) := H
  have A4 := As A40
  clear A40
  by_cases c5 : t368 = 3
  ·rw [if_pos c5] at H
   have c5b0 : (t368 == 3) = true := beq_iff_eq.mpr c5
   have c5b1 : (t368 != 3) = false := bne_eq_false_iff_eq.mpr c5
   clear c5
   simp only [Option.some.injEq, Prod.mk.injEq] at H
   obtain ⟨rfl, rfl, rfl⟩ := H
   go_enter Tryd.func22, Tryd.ntmps22
   go_wp2_with (first | (go_at_call 49; (with_reducible refine (intrusionref10_Decode.calls k a0 t359 t360 t361 t364 t365 t366 _ A2.out).mono ?_); rintro e w6 ⟨v362, rfl, ho0, hb⟩; have HO363 := As (Kd.R_lower ho0 (below_size (kB HB.out))); replace HB := As (below_step (kB HB.out) hb); (try clear hb); (try clear hk); (try clear ho0)) | ((with_reducible refine gate_dst (N := 5) rfl ?_); refine box_event rfl (N := 5) rfl (cs := #[.int .u64 0, .int .u64 0, .slice none 0 0, .int .i64 0, .string (⟨#[]⟩ : ByteArray)]) (t := 80) kG ?_; intro gb367 hg w7 hbox hb; replace HO363 := As (Kd.R_below (kR HO363.out) hb); have BK367 := As (hbox); have GW367 := As ((by rw [hg]; exact (below_size (kB HB.out)) : w.heap.size ≤ gb367)); have GE367 := As ((by rw [hg]; exact (below_size (kB HB.out)) : w.heap.size ≤ gb367)); replace HB := As (below_step (kB HB.out) hb); clear hb hbox hg; have hcz8_0 := cells_5 BK367.out; have hfz8_0 := fun j_ => blk_frozen BK367.out j_; obtain ⟨Ao9, co9, eo9⟩ := Kd.R_slice HO363.out; subst eo9) | (go_at_call 50; (with_reducible refine (intrusionref17_kindOf.calls t364 t368 _ A4.out).mono ?_); rintro e w' ⟨rfl, ⟨nd, rfl⟩⟩; (try first | exact ⟨rfl, _, World.drewN_drewN _ _ _⟩ | exact ⟨rfl, _, Eq.trans (World.drewN_drewN _ _ _) (congrArg (World.drewN _) (Nat.add_assoc _ _ _))⟩)))
   repeat (go_quiet (first | (go_at_call 49; (with_reducible refine (intrusionref10_Decode.calls k a0 t359 t360 t361 t364 t365 t366 _ A2.out).mono ?_); rintro e w6 ⟨v362, rfl, ho0, hb⟩; have HO363 := As (Kd.R_lower ho0 (below_size (kB HB.out))); replace HB := As (below_step (kB HB.out) hb); (try clear hb); (try clear ho0)) | ((with_reducible refine gate_dst (N := 5) rfl ?_); refine box_event rfl (N := 5) rfl (cs := #[.int .u64 0, .int .u64 0, .slice none 0 0, .int .i64 0, .string (⟨#[]⟩ : ByteArray)]) (t := 80) kG ?_; intro gb367 hg w7 hbox hb; replace HO363 := As (Kd.R_below (kR HO363.out) hb); have BK367 := As (hbox); have GW367 := As ((by rw [hg]; exact (below_size (kB HB.out)) : w.heap.size ≤ gb367)); have GE367 := As ((by rw [hg]; exact (below_size (kB HB.out)) : w.heap.size ≤ gb367)); replace HB := As (below_step (kB HB.out) hb); clear hb hbox hg; have hcz8_0 := cells_5 BK367.out; have hfz8_0 := fun j_ => blk_frozen BK367.out j_; obtain ⟨Ao9, co9, eo9⟩ := Kd.R_slice HO363.out; subst eo9) | (go_at_call 50; (with_reducible refine (intrusionref17_kindOf.calls t364 t368 _ A4.out).mono ?_); rintro e w' ⟨rfl, ⟨nd, rfl⟩⟩; (try first | exact ⟨rfl, _, World.drewN_drewN _ _ _⟩ | exact ⟨rfl, _, Eq.trans (World.drewN_drewN _ _ _) (congrArg (World.drewN _) (Nat.add_assoc _ _ _))⟩))); try go_wp2_with (first | (go_at_call 49; (with_reducible refine (intrusionref10_Decode.calls k a0 t359 t360 t361 t364 t365 t366 _ A2.out).mono ?_); rintro e w6 ⟨v362, rfl, ho0, hb⟩; have HO363 := As (Kd.R_lower ho0 (below_size (kB HB.out))); replace HB := As (below_step (kB HB.out) hb); (try clear hb); (try clear ho0)) | ((with_reducible refine gate_dst (N := 5) rfl ?_); refine box_event rfl (N := 5) rfl (cs := #[.int .u64 0, .int .u64 0, .slice none 0 0, .int .i64 0, .string (⟨#[]⟩ : ByteArray)]) (t := 80) kG ?_; intro gb367 hg w7 hbox hb; replace HO363 := As (Kd.R_below (kR HO363.out) hb); have BK367 := As (hbox); have GW367 := As ((by rw [hg]; exact (below_size (kB HB.out)) : w.heap.size ≤ gb367)); have GE367 := As ((by rw [hg]; exact (below_size (kB HB.out)) : w.heap.size ≤ gb367)); replace HB := As (below_step (kB HB.out) hb); clear hb hbox hg; have hcz8_0 := cells_5 BK367.out; have hfz8_0 := fun j_ => blk_frozen BK367.out j_; obtain ⟨Ao9, co9, eo9⟩ := Kd.R_slice HO363.out; subst eo9) | (go_at_call 50; (with_reducible refine (intrusionref17_kindOf.calls t364 t368 _ A4.out).mono ?_); rintro e w' ⟨rfl, ⟨nd, rfl⟩⟩; (try first | exact ⟨rfl, _, World.drewN_drewN _ _ _⟩ | exact ⟨rfl, _, Eq.trans (World.drewN_drewN _ _ _) (congrArg (World.drewN _) (Nat.add_assoc _ _ _))⟩))))
   go_ret3
   exact ⟨kE, by exact kB1 HB.out GE367.out⟩
  rw [if_neg c5] at H
  have c5b0 : (t368 == 3) = false := beq_eq_false_iff_ne.mpr c5
  have c5b1 : (t368 != 3) = true := bne_iff_ne.mpr c5
  simp only [Option.some.injEq, Prod.mk.injEq] at H
  obtain ⟨rfl, rfl, rfl⟩ := H
  go_enter Tryd.func22, Tryd.ntmps22
  go_wp2_with (first | (go_at_call 49; (with_reducible refine (intrusionref10_Decode.calls k a0 t359 t360 t361 t364 t365 t366 _ A2.out).mono ?_); rintro e w10 ⟨v362, rfl, ho0, hb⟩; have HO363 := As (Kd.R_lower ho0 (below_size (kB HB.out))); replace HB := As (below_step (kB HB.out) hb); (try clear hb); (try clear ho0)) | ((with_reducible refine gate_dst (N := 5) rfl ?_); refine box_event rfl (N := 5) rfl (cs := #[.int .u64 0, .int .u64 0, .slice none 0 0, .int .i64 0, .string (⟨#[]⟩ : ByteArray)]) (t := 80) kG ?_; intro gb367 hg w11 hbox hb; replace HO363 := As (Kd.R_below (kR HO363.out) hb); have BK367 := As (hbox); have GW367 := As ((by rw [hg]; exact (below_size (kB HB.out)) : w.heap.size ≤ gb367)); have GE367 := As ((by rw [hg]; exact (below_size (kB HB.out)) : w.heap.size ≤ gb367)); replace HB := As (below_step (kB HB.out) hb); clear hb hbox hg; have hcz12_0 := cells_5 BK367.out; have hfz12_0 := fun j_ => blk_frozen BK367.out j_; obtain ⟨Ao13, co13, eo13⟩ := Kd.R_slice HO363.out; subst eo13) | (go_at_call 50; (with_reducible refine (intrusionref17_kindOf.calls t364 t368 _ A4.out).mono ?_); rintro e w' ⟨rfl, ⟨nd, rfl⟩⟩; (try first | exact ⟨rfl, _, World.drewN_drewN _ _ _⟩ | exact ⟨rfl, _, Eq.trans (World.drewN_drewN _ _ _) (congrArg (World.drewN _) (Nat.add_assoc _ _ _))⟩)))
  repeat (go_quiet (first | (go_at_call 49; (with_reducible refine (intrusionref10_Decode.calls k a0 t359 t360 t361 t364 t365 t366 _ A2.out).mono ?_); rintro e w10 ⟨v362, rfl, ho0, hb⟩; have HO363 := As (Kd.R_lower ho0 (below_size (kB HB.out))); replace HB := As (below_step (kB HB.out) hb); (try clear hb); (try clear ho0)) | ((with_reducible refine gate_dst (N := 5) rfl ?_); refine box_event rfl (N := 5) rfl (cs := #[.int .u64 0, .int .u64 0, .slice none 0 0, .int .i64 0, .string (⟨#[]⟩ : ByteArray)]) (t := 80) kG ?_; intro gb367 hg w11 hbox hb; replace HO363 := As (Kd.R_below (kR HO363.out) hb); have BK367 := As (hbox); have GW367 := As ((by rw [hg]; exact (below_size (kB HB.out)) : w.heap.size ≤ gb367)); have GE367 := As ((by rw [hg]; exact (below_size (kB HB.out)) : w.heap.size ≤ gb367)); replace HB := As (below_step (kB HB.out) hb); clear hb hbox hg; have hcz12_0 := cells_5 BK367.out; have hfz12_0 := fun j_ => blk_frozen BK367.out j_; obtain ⟨Ao13, co13, eo13⟩ := Kd.R_slice HO363.out; subst eo13) | (go_at_call 50; (with_reducible refine (intrusionref17_kindOf.calls t364 t368 _ A4.out).mono ?_); rintro e w' ⟨rfl, ⟨nd, rfl⟩⟩; (try first | exact ⟨rfl, _, World.drewN_drewN _ _ _⟩ | exact ⟨rfl, _, Eq.trans (World.drewN_drewN _ _ _) (congrArg (World.drewN _) (Nat.add_assoc _ _ _))⟩))); try go_wp2_with (first | (go_at_call 49; (with_reducible refine (intrusionref10_Decode.calls k a0 t359 t360 t361 t364 t365 t366 _ A2.out).mono ?_); rintro e w10 ⟨v362, rfl, ho0, hb⟩; have HO363 := As (Kd.R_lower ho0 (below_size (kB HB.out))); replace HB := As (below_step (kB HB.out) hb); (try clear hb); (try clear ho0)) | ((with_reducible refine gate_dst (N := 5) rfl ?_); refine box_event rfl (N := 5) rfl (cs := #[.int .u64 0, .int .u64 0, .slice none 0 0, .int .i64 0, .string (⟨#[]⟩ : ByteArray)]) (t := 80) kG ?_; intro gb367 hg w11 hbox hb; replace HO363 := As (Kd.R_below (kR HO363.out) hb); have BK367 := As (hbox); have GW367 := As ((by rw [hg]; exact (below_size (kB HB.out)) : w.heap.size ≤ gb367)); have GE367 := As ((by rw [hg]; exact (below_size (kB HB.out)) : w.heap.size ≤ gb367)); replace HB := As (below_step (kB HB.out) hb); clear hb hbox hg; have hcz12_0 := cells_5 BK367.out; have hfz12_0 := fun j_ => blk_frozen BK367.out j_; obtain ⟨Ao13, co13, eo13⟩ := Kd.R_slice HO363.out; subst eo13) | (go_at_call 50; (with_reducible refine (intrusionref17_kindOf.calls t364 t368 _ A4.out).mono ?_); rintro e w' ⟨rfl, ⟨nd, rfl⟩⟩; (try first | exact ⟨rfl, _, World.drewN_drewN _ _ _⟩ | exact ⟨rfl, _, Eq.trans (World.drewN_drewN _ _ _) (congrArg (World.drewN _) (Nat.add_assoc _ _ _))⟩))))
  go_ret3
  exact ⟨kE, by exact kB1 HB.out GE367.out⟩
 rw [if_neg c3] at H
 have c3b0 : (t366 == 0) = false := beq_eq_false_iff_ne.mpr c3
 have c3b1 : (t366 != 0) = true := bne_iff_ne.mpr c3
 simp only [Option.some.injEq, Prod.mk.injEq] at H
 obtain ⟨rfl, rfl, rfl⟩ := H
 go_enter Tryd.func22, Tryd.ntmps22
 go_wp2_with (first | (go_at_call 49; (with_reducible refine (intrusionref10_Decode.calls k a0 t359 t360 t361 t364 t365 t366 _ A2.out).mono ?_); rintro e w14 ⟨v362, rfl, ho0, hb⟩; have HO363 := As (Kd.R_lower ho0 (below_size (kB HB.out))); replace HB := As (below_step (kB HB.out) hb); (try clear hb); (try clear ho0)) | ((with_reducible refine gate_dst (N := 5) rfl ?_); refine box_event rfl (N := 5) rfl (cs := #[.int .u64 0, .int .u64 0, .slice none 0 0, .int .i64 0, .string (⟨#[]⟩ : ByteArray)]) (t := 80) kG ?_; intro gb367 hg w15 hbox hb; replace HO363 := As (Kd.R_below (kR HO363.out) hb); have BK367 := As (hbox); have GW367 := As ((by rw [hg]; exact (below_size (kB HB.out)) : w.heap.size ≤ gb367)); have GE367 := As ((by rw [hg]; exact (below_size (kB HB.out)) : w.heap.size ≤ gb367)); replace HB := As (below_step (kB HB.out) hb); clear hb hbox hg; have hcz16_0 := cells_5 BK367.out; have hfz16_0 := fun j_ => blk_frozen BK367.out j_; obtain ⟨Ao17, co17, eo17⟩ := Kd.R_slice HO363.out; subst eo17))
 repeat (go_quiet (first | (go_at_call 49; (with_reducible refine (intrusionref10_Decode.calls k a0 t359 t360 t361 t364 t365 t366 _ A2.out).mono ?_); rintro e w14 ⟨v362, rfl, ho0, hb⟩; have HO363 := As (Kd.R_lower ho0 (below_size (kB HB.out))); replace HB := As (below_step (kB HB.out) hb); (try clear hb); (try clear ho0)) | ((with_reducible refine gate_dst (N := 5) rfl ?_); refine box_event rfl (N := 5) rfl (cs := #[.int .u64 0, .int .u64 0, .slice none 0 0, .int .i64 0, .string (⟨#[]⟩ : ByteArray)]) (t := 80) kG ?_; intro gb367 hg w15 hbox hb; replace HO363 := As (Kd.R_below (kR HO363.out) hb); have BK367 := As (hbox); have GW367 := As ((by rw [hg]; exact (below_size (kB HB.out)) : w.heap.size ≤ gb367)); have GE367 := As ((by rw [hg]; exact (below_size (kB HB.out)) : w.heap.size ≤ gb367)); replace HB := As (below_step (kB HB.out) hb); clear hb hbox hg; have hcz16_0 := cells_5 BK367.out; have hfz16_0 := fun j_ => blk_frozen BK367.out j_; obtain ⟨Ao17, co17, eo17⟩ := Kd.R_slice HO363.out; subst eo17)); try go_wp2_with (first | (go_at_call 49; (with_reducible refine (intrusionref10_Decode.calls k a0 t359 t360 t361 t364 t365 t366 _ A2.out).mono ?_); rintro e w14 ⟨v362, rfl, ho0, hb⟩; have HO363 := As (Kd.R_lower ho0 (below_size (kB HB.out))); replace HB := As (below_step (kB HB.out) hb); (try clear hb); (try clear ho0)) | ((with_reducible refine gate_dst (N := 5) rfl ?_); refine box_event rfl (N := 5) rfl (cs := #[.int .u64 0, .int .u64 0, .slice none 0 0, .int .i64 0, .string (⟨#[]⟩ : ByteArray)]) (t := 80) kG ?_; intro gb367 hg w15 hbox hb; replace HO363 := As (Kd.R_below (kR HO363.out) hb); have BK367 := As (hbox); have GW367 := As ((by rw [hg]; exact (below_size (kB HB.out)) : w.heap.size ≤ gb367)); have GE367 := As ((by rw [hg]; exact (below_size (kB HB.out)) : w.heap.size ≤ gb367)); replace HB := As (below_step (kB HB.out) hb); clear hb hbox hg; have hcz16_0 := cells_5 BK367.out; have hfz16_0 := fun j_ => blk_frozen BK367.out j_; obtain ⟨Ao17, co17, eo17⟩ := Kd.R_slice HO363.out; subst eo17)))
 go_ret3
 exact ⟨kE, by exact kB1 HB.out GE367.out⟩

end Go.Proofs.YtocobalkikkhlaaDoor.X
-- short
