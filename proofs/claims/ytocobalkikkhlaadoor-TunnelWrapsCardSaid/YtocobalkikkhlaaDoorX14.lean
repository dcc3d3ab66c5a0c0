/- Functions and their walks, printed by xprint.py. -/
import Derived.Test.YtocobalkikkhlaaDoorX0
import Derived.Test.YtocobalkikkhlaaDoorX13
namespace Go.Proofs.YtocobalkikkhlaaDoor.X
open Go.RowKit Go.Proofs.YtocobalkikkhlaaDoorW.PrintWords Go.Proofs.YtocobalkikkhlaaDoorW.PrintLast Go.Proofs.YtocobalkikkhlaaDoorW.PrintMore
attribute [local go_sem] max2_int min2_int max_two min_two max_three min_three max_four min_four   -- for this text's walks alone
set_option linter.unusedVariables false
set_option linter.unusedSimpArgs false

/-! ### intrusionref02_Pseudo: function 115 -/
def intrusionref02_Pseudo.j0 : Nat → Int → Int → Bool → Bool → Int → Int → Bool → Int → Int → Option (ByteArray)
 | 0, _, _, _, _, _, _, _, _, _ => none
 | k + 1, x2, x3, x36, x320000, x320001, x320002, x321000, x321001, x321002 => if x36 = true then (some (⟨#[]⟩ : ByteArray)) else ((intrusionref02_address.f k x320000 x320001 x320002).bind fun t323 => ((intrusionref02_address.f k x321000 x321001 x321002).bind fun t324 => (if t323.size + t324.size ≤ 9223372036854775807 then (if x320000 = true then (if x3 > 4294967295 then (some (⟨#[]⟩ : ByteArray)) else ((intrusionref02_number.f k x3 4).bind fun t325 => (if (t323 ++ t324).size + t325.size ≤ 9223372036854775807 then ((intrusionref02_number.f k x2 4).bind fun t326 => (if ((t323 ++ t324) ++ t325).size + t326.size ≤ 9223372036854775807 then (some (((t323 ++ t324) ++ t325) ++ t326)) else (none))) else (none)))) else (if x3 > 65535 then (some (⟨#[]⟩ : ByteArray)) else ((intrusionref02_number.f k x2 2).bind fun t327 => (if (t323 ++ t324).size + t327.size ≤ 9223372036854775807 then ((intrusionref02_number.f k x3 2).bind fun t328 => (if ((t323 ++ t324) ++ t327).size + t328.size ≤ 9223372036854775807 then (some (((t323 ++ t324) ++ t327) ++ t328)) else (none))) else (none))))) else (none))))
def intrusionref02_Pseudo.f (k : Nat) (b0 : Bool) (b1 : Int) (b2 : Int) (d0 : Bool) (d1 : Int) (d2 : Int) (a2 : Int) (a3 : Int) : Option (ByteArray) := (intrusionref02_valid.f b0 b1 b2).bind fun t321 => (if t321 = true then ((intrusionref02_valid.f d0 d1 d2).bind fun t322 => (if t322 = true then (if (b0 != d0) = true then (intrusionref02_Pseudo.j0 k a2 a3 true b0 b1 b2 d0 d1 d2) else (if a2 < 0 then (intrusionref02_Pseudo.j0 k a2 a3 true b0 b1 b2 d0 d1 d2) else (if a2 > 255 then (intrusionref02_Pseudo.j0 k a2 a3 true b0 b1 b2 d0 d1 d2) else (intrusionref02_Pseudo.j0 k a2 a3 (decide (a3 < 0)) b0 b1 b2 d0 d1 d2)))) else (intrusionref02_Pseudo.j0 k a2 a3 true b0 b1 b2 d0 d1 d2))) else (intrusionref02_Pseudo.j0 k a2 a3 true b0 b1 b2 d0 d1 d2))
theorem intrusionref02_Pseudo.mono_l : ∀ k, (∀ y0 y1 y2 y3 y4 y5 y6 y7 y8, LeO (intrusionref02_Pseudo.j0 k y0 y1 y2 y3 y4 y5 y6 y7 y8) (intrusionref02_Pseudo.j0 (k + 1) y0 y1 y2 y3 y4 y5 y6 y7 y8))
 | 0 => fun _ _ _ _ _ _ _ _ _ r h => by simp [intrusionref02_Pseudo.j0] at h
 | k + 1 => by
  have ih0 := intrusionref02_Pseudo.mono_l k
  intro y0 y1 y2 y3 y4 y5 y6 y7 y8
  unfold intrusionref02_Pseudo.j0
  repeat' first | with_reducible first | apply ih0 | apply intrusionref02_address.mono | apply intrusionref02_number.mono | apply LeO.refl | apply LeO.none | refine LeO.ite ?_ ?_ | refine LeO.bind ?_ (fun _ => ?_)
theorem intrusionref02_Pseudo.mono : ∀ a0 a1 a2 a3 a4 a5 a6 a7 k, LeO (intrusionref02_Pseudo.f k a0 a1 a2 a3 a4 a5 a6 a7) (intrusionref02_Pseudo.f (k + 1) a0 a1 a2 a3 a4 a5 a6 a7) := by
 intro a0 a1 a2 a3 a4 a5 a6 a7 k
 have ih0 := intrusionref02_Pseudo.mono_l k
 unfold intrusionref02_Pseudo.f
 repeat' first | with_reducible first | apply ih0 | apply intrusionref02_address.mono | apply intrusionref02_number.mono | apply LeO.refl | apply LeO.none | refine LeO.ite ?_ ?_ | refine LeO.bind ?_ (fun _ => ?_)
set_option maxHeartbeats 8000000 in
set_option maxRecDepth 100000 in
theorem intrusionref02_Pseudo.calls (k : Nat) (b0 : Bool) (b1 : Int) (b2 : Int) (d0 : Bool) (d1 : Int) (d2 : Int) (a2 : Int) (a3 : Int) (r : ByteArray) (w : World) (h : intrusionref02_Pseudo.f k b0 b1 b2 d0 d1 d2 a2 a3 = some r) :
  Calls Tryd.prog 115 #[.agg #[.bool b0, .int .u64 b1, .int .u64 b2], .agg #[.bool d0, .int .u64 d1, .int .u64 d2], .int .i64 a2, .int .i64 a3] w fun e w' => e = .returned (.string r) ∧ Below w.heap.size w w' := by
 have hu24 := Tryd.underlying24
 have HB := As (Below.refl w.heap.size w)
 have H : ((intrusionref02_valid.f b0 b1 b2).bind fun t321 => (if t321 = true then ((intrusionref02_valid.f d0 d1 d2).bind fun t322 => (if t322 = true then (if (b0 != d0) = true then (intrusionref02_Pseudo.j0 k a2 a3 true b0 b1 b2 d0 d1 d2) else (if a2 < 0 then (intrusionref02_Pseudo.j0 k a2 a3 true b0 b1 b2 d0 d1 d2) else (if a2 > 255 then (intrusionref02_Pseudo.j0 k a2 a3 true b0 b1 b2 d0 d1 d2) else (intrusionref02_Pseudo.j0 k a2 a3 (decide (a3 < 0)) b0 b1 b2 d0 d1 d2)))) else (intrusionref02_Pseudo.j0 k a2 a3 true b0 b1 b2 d0 d1 d2))) else (intrusionref02_Pseudo.j0 k a2 a3 true b0 b1 b2 d0 d1 d2))) = some r := h
 clear h
 have HC5 := As H
 clear H
 go_enter Tryd.func115, Tryd.ntmps115
 go_upto_region 1 with (first | ((with_reducible refine gate_dst (N := 4) rfl ?_); refine box_event rfl (N := 4) rfl (cs := #[.bool b0, .int .u64 b1, .int .u64 b2]) (t := 24) kG ?_; intro gb319 hg w6 hbox hb; have BK319 := As (hbox); have GW319 := As ((by rw [hg]; exact (below_size (kB HB.out)) : w.heap.size ≤ gb319)); have GE319 := As ((by rw [hg]; exact (below_size (kB HB.out)) : w.heap.size ≤ gb319)); replace HB := As (below_step (kB HB.out) hb); clear hb hbox hg) | ((with_reducible refine gate_dst (N := 5) rfl ?_); refine box_event rfl (N := 5) rfl (cs := #[.bool d0, .int .u64 d1, .int .u64 d2]) (t := 24) kG ?_; intro gb320 hg w7 hbox hb; have BK320 := As (hbox); have GW320 := As ((by rw [hg]; exact (below_size (kB1 HB.out GE319.out)) : w.heap.size ≤ gb320)); have GE320 := As ((by rw [hg]; exact (below_size (kB1 HB.out GE319.out)) : w.heap.size ≤ gb320)); replace HB := As (below_step (kB1 HB.out GE319.out) hb); have NB319_320 := As ((by rw [hg]; exact Nat.ne_of_lt (blk_lt (kb BK319.out)) : gb319 ≠ gb320)); have NB320_319 := As ((by rw [hg]; exact Nat.ne_of_gt (blk_lt (kb BK319.out)) : gb320 ≠ gb319)); replace BK319 := As (blk_below (kb BK319.out) hb); clear hb hbox hg))
 (try simp only [Act.put, sA, sZ, sS])
 go_cut [36] (fun v36 wc => ∃ (kq : Nat) (x36_4 : Bool), v36 = .bool x36_4 ∧ Aside0 (intrusionref02_Pseudo.j0 kq a2 a3 x36_4 b0 b1 b2 d0 d1 d2 = some r) ∧ Aside0 (kq ≤ k) ∧ Aside0 (wc.heap[gb319]? = some (.cells #[.bool b0, .int .u64 b1, .int .u64 b2] 24 (0, 0))) ∧ Aside0 (wc.heap[gb320]? = some (.cells #[.bool d0, .int .u64 d1, .int .u64 d2] 24 (0, 0))) ∧ Aside0 (Below w.heap.size w wc))
 case first =>
  have H := HC5.out
  clear HC5
  replace H := Option.bind_eq_some_iff.mp H
  obtain ⟨t321, A80, H⟩ := H
  replace H : (if t321 = true then ((intrusionref02_valid.f d0 d1 d2).bind fun t322 => (if t322 = true then (if (b0 != d0) = true then (intrusionref02_Pseudo.j0 k a2 a3 true b0 b1 b2 d0 d1 d2) else (if a2 < 0 then (intrusionref02_Pseudo.j0 k a2 a3 true b0 b1 b2 d0 d1 d2) else (if a2 > 255 then (intrusionref02_Pseudo.j0 k a2 a3 true b0 b1 b2 d0 d1 d2) else (intrusionref02_Pseudo.j0 k a2 a3 (decide (a3 < 0)) b0 b1 b2 d0 d1 d2)))) else (intrusionref02_Pseudo.j0 k a2 a3 true b0 b1 b2 d0 d1 d2))) else (intrusionref02_Pseudo.j0 k a2 a3 true b0 b1 b2 d0 d1 d2)) = some r := H
  have A8 := As A80
  clear A80
  by_cases c9 : t321 = true
  ·subst c9
   have H1 : ((intrusionref02_valid.f d0 d1 d2).bind fun t322 => (if t322 = true then (if (b0 != d0) = true then (intrusionref02_Pseudo.j0 k a2 a3 true b0 b1 b2 d0 d1 d2) else (if a2 < 0 then (intrusionref02_Pseudo.j0 k a2 a3 true b0 b1 b2 d0 d1 d2) else (if a2 > 255 then (intrusionref02_Pseudo.j0 k a2 a3 true b0 b1 b2 d0 d1 d2) else (intrusionref02_Pseudo.j0 k a2 a3 (decide (a3 < 0)) b0 b1 b2 d0 d1 d2)))) else (intrusionref02_Pseudo.j0 k a2 a3 true b0 b1 b2 d0 d1 d2))) = some r := by rw [if_pos rfl] at H; exact H
   clear H
   have H := H1
   clear H1
   replace H := Option.bind_eq_some_iff.mp H
   obtain ⟨t322, A100, H⟩ := H
   replace H : (if t322 = true then (if (b0 != d0) = true then (intrusionref02_Pseudo.j0 k a2 a3 true b0 b1 b2 d0 d1 d2) else (if a2 < 0 then (intrusionref02_Pseudo.j0 k a2 a3 true b0 b1 b2 d0 d1 d2) else (if a2 > 255 then (intrusionref02_Pseudo.j0 k a2 a3 true b0 b1 b2 d0 d1 d2) else (intrusionref02_Pseudo.j0 k a2 a3 (decide (a3 < 0)) b0 b1 b2 d0 d1 d2)))) else (intrusionref02_Pseudo.j0 k a2 a3 true b0 b1 b2 d0 d1 d2)) = some r := H
   have A10 := As A100
   clear A100
   by_cases c11 : t322 = true
   ·subst c11
    have H1 : (if (b0 != d0) = true then (intrusionref02_Pseudo.j0 k a2 a3 true b0 b1 b2 d0 d1 d2) else (if a2 < 0 then (intrusionref02_Pseudo.j0 k a2 a3 true b0 b1 b2 d0 d1 d2) else (if a2 > 255 then (intrusionref02_Pseudo.j0 k a2 a3 true b0 b1 b2 d0 d1 d2) else (intrusionref02_Pseudo.j0 k a2 a3 (decide (a3 < 0)) b0 b1 b2 d0 d1 d2)))) = some r := by rw [if_pos rfl] at H; exact H
    clear H
    have H := H1
    clear H1
    by_cases c12 : (b0 != d0) = true
    ·rw [if_pos c12] at H
     have c12b0 : (b0 != d0) = true := c12
     (try (have c12b1 : decide (b0 = d0) = false := by simpa using c12))
     (try (have c12b2 : (b0 == d0) = false := by simpa using c12))
     (try (have c12b3 : ¬ (b0 = d0) := by simpa using c12))
     clear c12
     (first | rw [c12b0] | (simp only [i64_w, i32_w]; rw [c12b0]) | rw [c12b2] | rw [c12b3] | skip)
     have H' := As H
     clear H
     have hnb13 := NB319_320.out
     have hnc13 := NB320_319.out
     have hcz14_0 := cells_3 BK319.out
     have hfz14_0 := fun j_ => blk_frozen BK319.out j_
     go_wp2_with (first | ((with_reducible refine gate_callee (f := 121) rfl ?_); refine goesL_ (some 11) rfl rfl Tryd.func121 (by kernel_rfl) rfl #[.agg #[.bool b0, .int .u64 b1, .int .u64 b2]] rfl kA ?_; (with_reducible refine (intrusionref02_valid.calls b0 b1 b2 true _ A8.out).mono ?_); rintro e w15 ⟨rfl, hb⟩; refine ⟨_, rfl, ?_⟩; replace BK319 := As (blk_below (kb BK319.out) hb); replace BK320 := As (blk_below (kb BK320.out) hb); replace HB := As (below_step (kB2 HB.out GE319.out GE320.out) hb); (try clear hb); have hcz16_0 := cells_3 BK320.out; have hfz16_0 := fun j_ => blk_frozen BK320.out j_) | (go_at_call 121; (with_reducible refine (intrusionref02_valid.calls d0 d1 d2 true _ A10.out).mono ?_); rintro e w17 ⟨rfl, hb⟩; replace BK319 := As (blk_below (kb BK319.out) hb); replace BK320 := As (blk_below (kb BK320.out) hb); replace HB := As (below_step (kB2 HB.out GE319.out GE320.out) hb); (try clear hb); have hcz18_0 := cells_3 BK319.out; have hfz18_0 := fun j_ => blk_frozen BK319.out j_; have hcz19_0 := cells_3 BK320.out; have hfz19_0 := fun j_ => blk_frozen BK320.out j_))
     go_meet
     case rel => exact ⟨_, (true), kS, H', ⟨by first | omega | exact Nat.le_refl _⟩, ⟨kb BK319.out⟩, ⟨kb BK320.out⟩, ⟨kB2 HB.out GE319.out GE320.out⟩⟩
    rw [if_neg c12] at H
    have c12b0 : (b0 != d0) = false := by simpa using c12
    (try (have c12b1 : decide (b0 = d0) = true := by simpa using c12))
    (try (have c12b2 : (b0 == d0) = true := by simpa using c12))
    clear c12
    (first | rw [c12b0] | (simp only [i64_w, i32_w]; rw [c12b0]) | rw [c12b2] | rw [c12b3] | skip)
    by_cases c20 : a2 < 0
    ·rw [if_pos c20] at H
     have c20b0 : decide (a2 < 0) = true := decide_eq_true c20
     clear c20
     have H' := As H
     clear H
     have hnb21 := NB319_320.out
     have hnc21 := NB320_319.out
     have hcz22_0 := cells_3 BK319.out
     have hfz22_0 := fun j_ => blk_frozen BK319.out j_
     go_wp2_with (first | ((with_reducible refine gate_callee (f := 121) rfl ?_); refine goesL_ (some 11) rfl rfl Tryd.func121 (by kernel_rfl) rfl #[.agg #[.bool b0, .int .u64 b1, .int .u64 b2]] rfl kA ?_; (with_reducible refine (intrusionref02_valid.calls b0 b1 b2 true _ A8.out).mono ?_); rintro e w23 ⟨rfl, hb⟩; refine ⟨_, rfl, ?_⟩; replace BK319 := As (blk_below (kb BK319.out) hb); replace BK320 := As (blk_below (kb BK320.out) hb); replace HB := As (below_step (kB2 HB.out GE319.out GE320.out) hb); (try clear hb); have hcz24_0 := cells_3 BK320.out; have hfz24_0 := fun j_ => blk_frozen BK320.out j_) | (go_at_call 121; (with_reducible refine (intrusionref02_valid.calls d0 d1 d2 true _ A10.out).mono ?_); rintro e w25 ⟨rfl, hb⟩; replace BK319 := As (blk_below (kb BK319.out) hb); replace BK320 := As (blk_below (kb BK320.out) hb); replace HB := As (below_step (kB2 HB.out GE319.out GE320.out) hb); (try clear hb); have hcz26_0 := cells_3 BK319.out; have hfz26_0 := fun j_ => blk_frozen BK319.out j_; have hcz27_0 := cells_3 BK320.out; have hfz27_0 := fun j_ => blk_frozen BK320.out j_))
     go_meet
     case rel => exact ⟨_, (true), kS, H', ⟨by first | omega | exact Nat.le_refl _⟩, ⟨kb BK319.out⟩, ⟨kb BK320.out⟩, ⟨kB2 HB.out GE319.out GE320.out⟩⟩
    rw [if_neg c20] at H
    have c20b0 : decide (a2 < 0) = false := decide_eq_false c20
    clear c20
    by_cases c28 : a2 > 255
    ·rw [if_pos c28] at H
     have c28b0 : decide (255 < a2) = true := decide_eq_true c28
     clear c28
     have H' := As H
     clear H
     have hnb29 := NB319_320.out
     have hnc29 := NB320_319.out
     have hcz30_0 := cells_3 BK319.out
     have hfz30_0 := fun j_ => blk_frozen BK319.out j_
     go_wp2_with (first | ((with_reducible refine gate_callee (f := 121) rfl ?_); refine goesL_ (some 11) rfl rfl Tryd.func121 (by kernel_rfl) rfl #[.agg #[.bool b0, .int .u64 b1, .int .u64 b2]] rfl kA ?_; (with_reducible refine (intrusionref02_valid.calls b0 b1 b2 true _ A8.out).mono ?_); rintro e w31 ⟨rfl, hb⟩; refine ⟨_, rfl, ?_⟩; replace BK319 := As (blk_below (kb BK319.out) hb); replace BK320 := As (blk_below (kb BK320.out) hb); replace HB := As (below_step (kB2 HB.out GE319.out GE320.out) hb); (try clear hb); have hcz32_0 := cells_3 BK320.out; have hfz32_0 := fun j_ => blk_frozen BK320.out j_) | (go_at_call 121; (with_reducible refine (intrusionref02_valid.calls d0 d1 d2 true _ A10.out).mono ?_); rintro e w33 ⟨rfl, hb⟩; replace BK319 := As (blk_below (kb BK319.out) hb); replace BK320 := As (blk_below (kb BK320.out) hb); replace HB := As (below_step (kB2 HB.out GE319.out GE320.out) hb); (try clear hb); have hcz34_0 := cells_3 BK319.out; have hfz34_0 := fun j_ => blk_frozen BK319.out j_; have hcz35_0 := cells_3 BK320.out; have hfz35_0 := fun j_ => blk_frozen BK320.out j_))
     go_meet
     case rel => exact ⟨_, (true), kS, H', ⟨by first | omega | exact Nat.le_refl _⟩, ⟨kb BK319.out⟩, ⟨kb BK320.out⟩, ⟨kB2 HB.out GE319.out GE320.out⟩⟩
    rw [if_neg c28] at H
    have c28b0 : decide (255 < a2) = false := decide_eq_false c28
    clear c28
    have H' := As H
    clear H
    have hnb36 := NB319_320.out
    have hnc36 := NB320_319.out
    have hcz37_0 := cells_3 BK319.out
    have hfz37_0 := fun j_ => blk_frozen BK319.out j_
    go_wp2_with (first | ((with_reducible refine gate_callee (f := 121) rfl ?_); refine goesL_ (some 11) rfl rfl Tryd.func121 (by kernel_rfl) rfl #[.agg #[.bool b0, .int .u64 b1, .int .u64 b2]] rfl kA ?_; (with_reducible refine (intrusionref02_valid.calls b0 b1 b2 true _ A8.out).mono ?_); rintro e w38 ⟨rfl, hb⟩; refine ⟨_, rfl, ?_⟩; replace BK319 := As (blk_below (kb BK319.out) hb); replace BK320 := As (blk_below (kb BK320.out) hb); replace HB := As (below_step (kB2 HB.out GE319.out GE320.out) hb); (try clear hb); have hcz39_0 := cells_3 BK320.out; have hfz39_0 := fun j_ => blk_frozen BK320.out j_) | (go_at_call 121; (with_reducible refine (intrusionref02_valid.calls d0 d1 d2 true _ A10.out).mono ?_); rintro e w40 ⟨rfl, hb⟩; replace BK319 := As (blk_below (kb BK319.out) hb); replace BK320 := As (blk_below (kb BK320.out) hb); replace HB := As (below_step (kB2 HB.out GE319.out GE320.out) hb); (try clear hb); have hcz41_0 := cells_3 BK319.out; have hfz41_0 := fun j_ => blk_frozen BK319.out j_; have hcz42_0 := cells_3 BK320.out; have hfz42_0 := fun j_ => blk_frozen BK320.out j_))
    go_meet
    case rel => exact ⟨_, (decide (a3 < 0)), kS, H', ⟨by first | omega | exact Nat.le_refl _⟩, ⟨kb BK319.out⟩, ⟨kb BK320.out⟩, ⟨kB2 HB.out GE319.out GE320.out⟩⟩
   replace c11 := Bool.eq_false_iff.mpr c11
   subst c11
   have H1 : (intrusionref02_Pseudo.j0 k a2 a3 true b0 b1 b2 d0 d1 d2) = some r := by rw [if_neg (show ¬ (false = true) by decide)] at H; exact H
   clear H
   have H := H1
   clear H1
   have H' := As H
   clear H
   have hnb43 := NB319_320.out
   have hnc43 := NB320_319.out
   have hcz44_0 := cells_3 BK319.out
   have hfz44_0 := fun j_ => blk_frozen BK319.out j_
   go_wp2_with (first | ((with_reducible refine gate_callee (f := 121) rfl ?_); refine goesL_ (some 11) rfl rfl Tryd.func121 (by kernel_rfl) rfl #[.agg #[.bool b0, .int .u64 b1, .int .u64 b2]] rfl kA ?_; (with_reducible refine (intrusionref02_valid.calls b0 b1 b2 true _ A8.out).mono ?_); rintro e w45 ⟨rfl, hb⟩; refine ⟨_, rfl, ?_⟩; replace BK319 := As (blk_below (kb BK319.out) hb); replace BK320 := As (blk_below (kb BK320.out) hb); replace HB := As (below_step (kB2 HB.out GE319.out GE320.out) hb); (try clear hb); have hcz46_0 := cells_3 BK320.out; have hfz46_0 := fun j_ => blk_frozen BK320.out j_) | (go_at_call 121; (with_reducible refine (intrusionref02_valid.calls d0 d1 d2 false _ A10.out).mono ?_); rintro e w47 ⟨rfl, hb⟩; replace BK319 := As (blk_below (kb BK319.out) hb); replace BK320 := As (blk_below (kb BK320.out) hb); replace HB := As (below_step (kB2 HB.out GE319.out GE320.out) hb); (try clear hb)))
   go_meet
   case rel => exact ⟨_, (true), kS, H', ⟨by first | omega | exact Nat.le_refl _⟩, ⟨kb BK319.out⟩, ⟨kb BK320.out⟩, ⟨kB2 HB.out GE319.out GE320.out⟩⟩
  replace c9 := Bool.eq_false_iff.mpr c9
  subst c9
  have H1 : (intrusionref02_Pseudo.j0 k a2 a3 true b0 b1 b2 d0 d1 d2) = some r := by rw [if_neg (show ¬ (false = true) by decide)] at H; exact H
  clear H
  have H := H1
  clear H1
  have H' := As H
  clear H
  have hnb48 := NB319_320.out
  have hnc48 := NB320_319.out
  have hcz49_0 := cells_3 BK319.out
  have hfz49_0 := fun j_ => blk_frozen BK319.out j_
  go_wp2_with (first | ((with_reducible refine gate_callee (f := 121) rfl ?_); refine goesL_ (some 11) rfl rfl Tryd.func121 (by kernel_rfl) rfl #[.agg #[.bool b0, .int .u64 b1, .int .u64 b2]] rfl kA ?_; (with_reducible refine (intrusionref02_valid.calls b0 b1 b2 false _ A8.out).mono ?_); rintro e w50 ⟨rfl, hb⟩; refine ⟨_, rfl, ?_⟩; replace BK319 := As (blk_below (kb BK319.out) hb); replace BK320 := As (blk_below (kb BK320.out) hb); replace HB := As (below_step (kB2 HB.out GE319.out GE320.out) hb); (try clear hb)))
  go_meet
  case rel => exact ⟨_, (true), kS, H', ⟨by first | omega | exact Nat.le_refl _⟩, ⟨kb BK319.out⟩, ⟨kb BK320.out⟩, ⟨kB2 HB.out GE319.out GE320.out⟩⟩
 clear HC5
 obtain ⟨kq, x36_4, rfl, HA, HJ4, BK319, BK320, HB⟩ := hcut
 cases kq with
 | zero => exact absurd HA.out (by simp [intrusionref02_Pseudo.j0])
 | succ kj4 =>
  have H := HA.out
  clear HA
  simp only [intrusionref02_Pseudo.j0] at H
  by_cases c51 : x36_4 = true
  ·subst c51
   have H1 : (some (⟨#[]⟩ : ByteArray)) = some r := by rw [if_pos rfl] at H; exact H
   clear H
   have H := H1
   clear H1
   obtain rfl := Option.some.inj H
   go_wp2
   go_ret
   exact ⟨kE, by exact kB2 HB.out GE319.out GE320.out⟩
  replace c51 := Bool.eq_false_iff.mpr c51
  subst c51
  have H1 : ((intrusionref02_address.f kj4 b0 b1 b2).bind fun t323 => ((intrusionref02_address.f kj4 d0 d1 d2).bind fun t324 => (if t323.size + t324.size ≤ 9223372036854775807 then (if b0 = true then (if a3 > 4294967295 then (some (⟨#[]⟩ : ByteArray)) else ((intrusionref02_number.f kj4 a3 4).bind fun t325 => (if (t323 ++ t324).size + t325.size ≤ 9223372036854775807 then ((intrusionref02_number.f kj4 a2 4).bind fun t326 => (if ((t323 ++ t324) ++ t325).size + t326.size ≤ 9223372036854775807 then (some (((t323 ++ t324) ++ t325) ++ t326)) else (none))) else (none)))) else (if a3 > 65535 then (some (⟨#[]⟩ : ByteArray)) else ((intrusionref02_number.f kj4 a2 2).bind fun t327 => (if (t323 ++ t324).size + t327.size ≤ 9223372036854775807 then ((intrusionref02_number.f kj4 a3 2).bind fun t328 => (if ((t323 ++ t324) ++ t327).size + t328.size ≤ 9223372036854775807 then (some (((t323 ++ t324) ++ t327) ++ t328)) else (none))) else (none))))) else (none)))) = some r := by rw [if_neg (show ¬ (false = true) by decide)] at H; exact H
  clear H
  have H := H1
  clear H1
  replace H := Option.bind_eq_some_iff.mp H
  obtain ⟨t323, A520, H⟩ := H
  replace H : ((intrusionref02_address.f kj4 d0 d1 d2).bind fun t324 => (if t323.size + t324.size ≤ 9223372036854775807 then (if b0 = true then (if a3 > 4294967295 then (some (⟨#[]⟩ : ByteArray)) else ((intrusionref02_number.f kj4 a3 4).bind fun t325 => (if (t323 ++ t324).size + t325.size ≤ 9223372036854775807 then ((intrusionref02_number.f kj4 a2 4).bind fun t326 => (if ((t323 ++ t324) ++ t325).size + t326.size ≤ 9223372036854775807 then (some (((t323 ++ t324) ++ t325) ++ t326)) else (none))) else (none)))) else (if a3 > 65535 then (some (⟨#[]⟩ : ByteArray)) else ((intrusionref02_number.f kj4 a2 2).bind fun t327 => (if (t323 ++ t324).size + t327.size ≤ 9223372036854775807 then ((intrusionref02_number.f kj4 a3 2).bind fun t328 => (if ((t323 ++ t324) ++ t327).size + t328.size ≤ 9223372036854775807 then (some (((t323 ++ t324) ++ t327) ++ t328)) else (none))) else (none))))) else (none))) = some r := H
  have A52 := As A520
  clear A520
  replace H := Option.bind_eq_some_iff.mp H
  obtain ⟨t324, A530, H⟩ := H
  replace H : (if t323.size + t324.size ≤ 9223372036854775807 then (if b0 = true then (if a3 > 4294967295 then (some (⟨#[]⟩ : ByteArray)) else ((intrusionref02_number.f kj4 a3 4).bind fun t325 => (if (t323 ++ t324).size + t325.size ≤ 9223372036854775807 then ((intrusionref02_number.f kj4 a2 4).bind fun t326 => (if ((t323 ++ t324) ++ t325).size + t326.size ≤ 9223372036854775807 then (some (((t323 ++ t324) ++ t325) ++ t326)) else (none))) else (none)))) else (if a3 > 65535 then (some (⟨#[]⟩ : ByteArray)) else ((intrusionref02_number.f kj4 a2 2).bind fun t327 => (if (t323 ++ t324).size + t327.size ≤ 9223372036854775807 then ((intrusionref02_number.f kj4 a3 2).bind fun t328 => (if ((t323 ++ t324) ++ t327).size + t328.size ≤ 9223372036854775807 then (some (((t323 ++ t324) ++ t327) ++ t328)) else (none))) else (none))))) else (none)) = some r := H
  have A53 := As A530
  clear A530
  by_cases c54 : t323.size + t324.size ≤ 9223372036854775807
  ·rw [if_pos c54] at H
   have c54b0 := eq_true c54
   have c54b1 : decide (t323.size + t324.size ≤ 9223372036854775807) = true := decide_eq_true c54
   try have c54b2 : (9223372036854775807 < t323.size + t324.size) = False := eq_false (Nat.not_lt.2 c54)
   by_cases c55 : b0 = true
   ·subst c55
    have H1 : (if a3 > 4294967295 then (some (⟨#[]⟩ : ByteArray)) else ((intrusionref02_number.f kj4 a3 4).bind fun t325 => (if (t323 ++ t324).size + t325.size ≤ 9223372036854775807 then ((intrusionref02_number.f kj4 a2 4).bind fun t326 => (if ((t323 ++ t324) ++ t325).size + t326.size ≤ 9223372036854775807 then (some (((t323 ++ t324) ++ t325) ++ t326)) else (none))) else (none)))) = some r := by rw [if_pos rfl] at H; exact H
    clear H
    have H := H1
    clear H1
    by_cases c56 : a3 > 4294967295
    ·rw [if_pos c56] at H
     have c56b0 : decide (4294967295 < a3) = true := decide_eq_true c56
     clear c56
     obtain rfl := Option.some.inj H
     try go_wp2
     replace BK319 := As (blk_drew BK319.out)
     replace BK320 := As (blk_drew BK320.out)
     replace HB := As (below_drew1 HB.out)
     refine start_ (n := 6) (S := fun w' => w'.cell? ⟨gb319, 0, none⟩ = some (.bool true) ∧ w'.cell? ⟨gb319, 1, none⟩ = some (.int .u64 b1) ∧ w'.cell? ⟨gb319, 2, none⟩ = some (.int .u64 b2) ∧ w'.cell? ⟨gb320, 0, none⟩ = some (.bool d0) ∧ w'.cell? ⟨gb320, 1, none⟩ = some (.int .u64 d1) ∧ w'.cell? ⟨gb320, 2, none⟩ = some (.int .u64 d2)) (ds := []) #[O, O, O, O, O, O] (by kernel_rfl) rfl rfl ⟨kC BK319.out 0, kC BK319.out 1, kC BK319.out 2, kC BK320.out 0, kC BK320.out 1, kC BK320.out 2⟩ (fun hHeld => ?_)
     generalize wc.drew = w57 at BK319 BK320 HB hHeld ⊢
     refine take_ (i := 0) (N := some 37) (v := ?_) (a' := ?_) #[I, O, O, O, O, O] rfl rfl (by kernel_rfl) (fun _ _ _ h => h) (Or.inl ⟨by rfl, ?_⟩) hHeld ?_ ?_
     rotate_left
     ·rintro w' ⟨s0, s1, s2, s3, s4, s5⟩
      go_simp
      with_reducible rfl
     rotate_left
     ·simp only [Act.put, sA, sZ, sS, i64_w, i32_w]
      rfl
     refine take_ (i := 2) (N := some 39) (v := ?_) (a' := ?_) #[I, O, I, O, O, O] rfl rfl (by kernel_rfl) (fun _ _ _ h => h) (Or.inl ⟨by rfl, ?_⟩) hHeld ?_ ?_
     rotate_left
     ·rintro w' ⟨s0, s1, s2, s3, s4, s5⟩
      go_simp
      with_reducible rfl
     rotate_left
     ·simp only [Act.put, sA, sZ, sS, i64_w, i32_w]
      rfl
     refine one_ (i := 1) (N := some 38) #[I, I, I, O, O, O] rfl rfl (by kernel_rfl) (by decide) (fun K hK => ?_)
     refine goes_ Tryd.func122 (by kernel_rfl) rfl #[.agg #[.bool true, .int .u64 b1, .int .u64 b2]] (by rfl) rfl rfl kA ?_
     with_reducible refine (intrusionref02_address.calls kj4 true b1 b2 t323 _ A52.out).mono ?_
     rintro e w58 ⟨rfl, hb⟩
     refine ⟨_, rfl, ?_⟩
     replace BK319 := As (blk_below (kb BK319.out) hb)
     replace BK320 := As (blk_below (kb BK320.out) hb)
     replace HB := As (below_step (kB2 HB.out GE319.out GE320.out) hb)
     (try clear hb)
     (try clear hb2)
     (try clear hk)
     (try clear hi)
     refine hK.out _ _ ⟨kC BK319.out 0, kC BK319.out 1, kC BK319.out 2, kC BK320.out 0, kC BK320.out 1, kC BK320.out 2⟩ (fun hHeld => ?_)
     clear hK K
     refine norm_ (a' := ?_) ?_ ?_
     rotate_left
     ·show Act.put _ (some 38) _ = _
      simp only [Act.put, sA, sZ, sS, i64_w, i32_w]
      rfl
     refine one_ (i := 3) (N := some 40) #[I, I, I, I, O, O] rfl rfl (by kernel_rfl) (by decide) (fun K hK => ?_)
     refine goes_ Tryd.func122 (by kernel_rfl) rfl #[.agg #[.bool d0, .int .u64 d1, .int .u64 d2]] (by rfl) rfl rfl kA ?_
     with_reducible refine (intrusionref02_address.calls kj4 d0 d1 d2 t324 _ A53.out).mono ?_
     rintro e w59 ⟨rfl, hb⟩
     refine ⟨_, rfl, ?_⟩
     replace BK319 := As (blk_below (kb BK319.out) hb)
     replace BK320 := As (blk_below (kb BK320.out) hb)
     replace HB := As (below_step (kB2 HB.out GE319.out GE320.out) hb)
     (try clear hb)
     (try clear hb2)
     (try clear hk)
     (try clear hi)
     refine hK.out _ _ ⟨kC BK319.out 0, kC BK319.out 1, kC BK319.out 2, kC BK320.out 0, kC BK320.out 1, kC BK320.out 2⟩ (fun hHeld => ?_)
     clear hK K
     refine norm_ (a' := ?_) ?_ ?_
     rotate_left
     ·show Act.put _ (some 40) _ = _
      simp only [Act.put, sA, sZ, sS, i64_w, i32_w]
      rfl
     refine pure_ (i := 4) (N := some 41) (v := ?_) (a' := ?_) #[I, I, I, I, I, O] rfl rfl (by kernel_rfl) (fun _ _ _ h => h) (Or.inl ⟨by rfl, ?_⟩) ?_ ?_
     rotate_left
     ·intro w'
      go_simp
      with_reducible rfl
     rotate_left
     ·simp only [Act.put, sA, sZ, sS, i64_w, i32_w]
      rfl
     refine pure_ (i := 5) (N := some 9) (v := ?_) (a' := ?_) #[I, I, I, I, I, I] rfl rfl (by kernel_rfl) (fun _ _ _ h => h) (Or.inl ⟨by rfl, ?_⟩) ?_ ?_
     rotate_left
     ·intro w'
      go_simp
      with_reducible rfl
     rotate_left
     ·simp only [Act.put, sA, sZ, sS, i64_w, i32_w]
      rfl
     refine done_ (by kernel_rfl) ?_
     have hnb60 := NB319_320.out
     have hnc60 := NB320_319.out
     have hcz61_0 := cells_3 BK319.out
     have hfz61_0 := fun j_ => blk_frozen BK319.out j_
     try go_wp2
     go_ret
     exact ⟨kE, by exact kB2 HB.out GE319.out GE320.out⟩
    rw [if_neg c56] at H
    have c56b0 : decide (4294967295 < a3) = false := decide_eq_false c56
    clear c56
    replace H := Option.bind_eq_some_iff.mp H
    obtain ⟨t325, A620, H⟩ := H
    replace H : (if (t323 ++ t324).size + t325.size ≤ 9223372036854775807 then ((intrusionref02_number.f kj4 a2 4).bind fun t326 => (if ((t323 ++ t324) ++ t325).size + t326.size ≤ 9223372036854775807 then (some (((t323 ++ t324) ++ t325) ++ t326)) else (none))) else (none)) = some r := H
    have A62 := As A620
    clear A620
    by_cases c63 : (t323 ++ t324).size + t325.size ≤ 9223372036854775807
    ·rw [if_pos c63] at H
     have c63b0 := eq_true c63
     have c63b1 : decide ((t323 ++ t324).size + t325.size ≤ 9223372036854775807) = true := decide_eq_true c63
     (try (have c63s0 : (9223372036854775807 < (t323.size + t324.size) + t325.size) = False := by have h_ := c63; simp only [ByteArray.size_append, ByteArray.size_extract] at h_; exact eq_false (by first | omega | (omega))))
     (try (have c63s1 : (9223372036854775807 < t323.size + t324.size + t325.size) = False := by have h_ := c63; simp only [ByteArray.size_append, ByteArray.size_extract] at h_; exact eq_false (by first | omega | (omega))))
     (try (have c63s2 : ((t323.size + t324.size) + t325.size ≤ 9223372036854775807) = True := by have h_ := c63; simp only [ByteArray.size_append, Int.natCast_add, Int.toNat_natCast] at h_; first | exact eq_true h_ | exact eq_true (by omega)))
     (try (have c63s3 : decide ((t323.size + t324.size) + t325.size ≤ 9223372036854775807) = true := by have h_ := c63; first | (simp only [ByteArray.size_append, Int.toNat_natCast] at h_; first | exact beq_iff_eq.mpr h_ | exact beq_eq_false_iff_ne.mpr h_ | exact bne_iff_ne.mpr h_ | exact bne_eq_false_iff_eq.mpr h_ | (rw [beq_iff_eq.mpr h_]; rfl) | (rw [beq_eq_false_iff_ne.mpr h_]; rfl)) | (simp only [ByteArray.size_append, Int.natCast_add, Int.toNat_natCast] at h_ ⊢; first | exact h_ | simpa using h_ | simp [h_] | omega) | (simp only [ByteArray.size_append] at h_; simp at h_ ⊢; omega) | (simp only [ByteArray.size_append, Int.natCast_add, Int.toNat_natCast] at h_; simpa using h_)))
     try have c63b2 : (9223372036854775807 < (t323 ++ t324).size + t325.size) = False := eq_false (Nat.not_lt.2 c63)
     replace H := Option.bind_eq_some_iff.mp H
     obtain ⟨t326, A640, H⟩ := H
     replace H : (if ((t323 ++ t324) ++ t325).size + t326.size ≤ 9223372036854775807 then (some (((t323 ++ t324) ++ t325) ++ t326)) else (none)) = some r := H
     have A64 := As A640
     clear A640
     by_cases c65 : ((t323 ++ t324) ++ t325).size + t326.size ≤ 9223372036854775807
     ·rw [if_pos c65] at H
      have c65b0 := eq_true c65
      have c65b1 : decide (((t323 ++ t324) ++ t325).size + t326.size ≤ 9223372036854775807) = true := decide_eq_true c65
      (try (have c65s0 : (9223372036854775807 < t323.size + t324.size + t325.size + t326.size) = False := by have h_ := c65; simp only [ByteArray.size_append, ByteArray.size_extract] at h_; exact eq_false (by first | omega | (omega))))
      (try (have c65s1 : (9223372036854775807 < (t323.size + t324.size + t325.size) + t326.size) = False := by have h_ := c65; simp only [ByteArray.size_append, ByteArray.size_extract] at h_; exact eq_false (by first | omega | (omega))))
      (try (have c65s2 : ((t323.size + t324.size + t325.size) + t326.size ≤ 9223372036854775807) = True := by have h_ := c65; simp only [ByteArray.size_append, Int.natCast_add, Int.toNat_natCast] at h_; first | exact eq_true h_ | exact eq_true (by omega)))
      (try (have c65s3 : decide ((t323.size + t324.size + t325.size) + t326.size ≤ 9223372036854775807) = true := by have h_ := c65; first | (simp only [ByteArray.size_append, Int.toNat_natCast] at h_; first | exact beq_iff_eq.mpr h_ | exact beq_eq_false_iff_ne.mpr h_ | exact bne_iff_ne.mpr h_ | exact bne_eq_false_iff_eq.mpr h_ | (rw [beq_iff_eq.mpr h_]; rfl) | (rw [beq_eq_false_iff_ne.mpr h_]; rfl)) | (simp only [ByteArray.size_append, Int.natCast_add, Int.toNat_natCast] at h_ ⊢; first | exact h_ | simpa using h_ | simp [h_] | omega) | (simp only [ByteArray.size_append] at h_; simp at h_ ⊢; omega) | (simp only [ByteArray.size_append, Int.natCast_add, Int.toNat_natCast] at h_; simpa using h_)))
      try have c65b2 : (9223372036854775807 < ((t323 ++ t324) ++ t325).size + t326.size) = False := eq_false (Nat.not_lt.2 c65)
      obtain rfl := Option.some.inj H
      try go_wp2
      replace BK319 := As (blk_drew BK319.out)
      replace BK320 := As (blk_drew BK320.out)
      replace HB := As (below_drew1 HB.out)
      refine start_ (n := 6) (S := fun w' => w'.cell? ⟨gb319, 0, none⟩ = some (.bool true) ∧ w'.cell? ⟨gb319, 1, none⟩ = some (.int .u64 b1) ∧ w'.cell? ⟨gb319, 2, none⟩ = some (.int .u64 b2) ∧ w'.cell? ⟨gb320, 0, none⟩ = some (.bool d0) ∧ w'.cell? ⟨gb320, 1, none⟩ = some (.int .u64 d1) ∧ w'.cell? ⟨gb320, 2, none⟩ = some (.int .u64 d2)) (ds := []) #[O, O, O, O, O, O] (by kernel_rfl) rfl rfl ⟨kC BK319.out 0, kC BK319.out 1, kC BK319.out 2, kC BK320.out 0, kC BK320.out 1, kC BK320.out 2⟩ (fun hHeld => ?_)
      generalize wc.drew = w66 at BK319 BK320 HB hHeld ⊢
      refine take_ (i := 0) (N := some 37) (v := ?_) (a' := ?_) #[I, O, O, O, O, O] rfl rfl (by kernel_rfl) (fun _ _ _ h => h) (Or.inl ⟨by rfl, ?_⟩) hHeld ?_ ?_
      rotate_left
      ·rintro w' ⟨s0, s1, s2, s3, s4, s5⟩
       go_simp
       with_reducible rfl
      rotate_left
      ·simp only [Act.put, sA, sZ, sS, i64_w, i32_w]
       rfl
      refine take_ (i := 2) (N := some 39) (v := ?_) (a' := ?_) #[I, O, I, O, O, O] rfl rfl (by kernel_rfl) (fun _ _ _ h => h) (Or.inl ⟨by rfl, ?_⟩) hHeld ?_ ?_
      rotate_left
      ·rintro w' ⟨s0, s1, s2, s3, s4, s5⟩
       go_simp
       with_reducible rfl
      rotate_left
      ·simp only [Act.put, sA, sZ, sS, i64_w, i32_w]
       rfl
      refine one_ (i := 1) (N := some 38) #[I, I, I, O, O, O] rfl rfl (by kernel_rfl) (by decide) (fun K hK => ?_)
      refine goes_ Tryd.func122 (by kernel_rfl) rfl #[.agg #[.bool true, .int .u64 b1, .int .u64 b2]] (by rfl) rfl rfl kA ?_
      with_reducible refine (intrusionref02_address.calls kj4 true b1 b2 t323 _ A52.out).mono ?_
      rintro e w67 ⟨rfl, hb⟩
      refine ⟨_, rfl, ?_⟩
      replace BK319 := As (blk_below (kb BK319.out) hb)
      replace BK320 := As (blk_below (kb BK320.out) hb)
      replace HB := As (below_step (kB2 HB.out GE319.out GE320.out) hb)
      (try clear hb)
      (try clear hb2)
      (try clear hk)
      (try clear hi)
      refine hK.out _ _ ⟨kC BK319.out 0, kC BK319.out 1, kC BK319.out 2, kC BK320.out 0, kC BK320.out 1, kC BK320.out 2⟩ (fun hHeld => ?_)
      clear hK K
      refine norm_ (a' := ?_) ?_ ?_
      rotate_left
      ·show Act.put _ (some 38) _ = _
       simp only [Act.put, sA, sZ, sS, i64_w, i32_w]
       rfl
      refine one_ (i := 3) (N := some 40) #[I, I, I, I, O, O] rfl rfl (by kernel_rfl) (by decide) (fun K hK => ?_)
      refine goes_ Tryd.func122 (by kernel_rfl) rfl #[.agg #[.bool d0, .int .u64 d1, .int .u64 d2]] (by rfl) rfl rfl kA ?_
      with_reducible refine (intrusionref02_address.calls kj4 d0 d1 d2 t324 _ A53.out).mono ?_
      rintro e w68 ⟨rfl, hb⟩
      refine ⟨_, rfl, ?_⟩
      replace BK319 := As (blk_below (kb BK319.out) hb)
      replace BK320 := As (blk_below (kb BK320.out) hb)
      replace HB := As (below_step (kB2 HB.out GE319.out GE320.out) hb)
      (try clear hb)
      (try clear hb2)
      (try clear hk)
      (try clear hi)
      refine hK.out _ _ ⟨kC BK319.out 0, kC BK319.out 1, kC BK319.out 2, kC BK320.out 0, kC BK320.out 1, kC BK320.out 2⟩ (fun hHeld => ?_)
      clear hK K
      refine norm_ (a' := ?_) ?_ ?_
      rotate_left
      ·show Act.put _ (some 40) _ = _
       simp only [Act.put, sA, sZ, sS, i64_w, i32_w]
       rfl
      refine pure_ (i := 4) (N := some 41) (v := ?_) (a' := ?_) #[I, I, I, I, I, O] rfl rfl (by kernel_rfl) (fun _ _ _ h => h) (Or.inl ⟨by rfl, ?_⟩) ?_ ?_
      rotate_left
      ·intro w'
       go_simp
       with_reducible rfl
      rotate_left
      ·simp only [Act.put, sA, sZ, sS, i64_w, i32_w]
       rfl
      refine pure_ (i := 5) (N := some 9) (v := ?_) (a' := ?_) #[I, I, I, I, I, I] rfl rfl (by kernel_rfl) (fun _ _ _ h => h) (Or.inl ⟨by rfl, ?_⟩) ?_ ?_
      rotate_left
      ·intro w'
       go_simp
       with_reducible rfl
      rotate_left
      ·simp only [Act.put, sA, sZ, sS, i64_w, i32_w]
       rfl
      refine done_ (by kernel_rfl) ?_
      have hnb69 := NB319_320.out
      have hnc69 := NB320_319.out
      have hcz70_0 := cells_3 BK319.out
      have hfz70_0 := fun j_ => blk_frozen BK319.out j_
      try go_wp2_with (first | ((with_reducible refine gate_callee (f := 123) rfl ?_); refine goesL_ (some 48) rfl rfl Tryd.func123 (by kernel_rfl) rfl #[.int .i64 a3, .int .i64 4] rfl kA ?_; (with_reducible refine (intrusionref02_number.calls kj4 a3 4 t325 _ A62.out).mono ?_); rintro e w71 ⟨rfl, hb⟩; refine ⟨_, rfl, ?_⟩; replace BK319 := As (blk_below (kb BK319.out) hb); replace BK320 := As (blk_below (kb BK320.out) hb); replace HB := As (below_step (kB2 HB.out GE319.out GE320.out) hb); (try clear hb)) | ((with_reducible refine gate_callee (f := 123) rfl ?_); refine goesL_ (some 51) rfl rfl Tryd.func123 (by kernel_rfl) rfl #[.int .i64 a2, .int .i64 4] rfl kA ?_; (with_reducible refine (intrusionref02_number.calls kj4 a2 4 t326 _ A64.out).mono ?_); rintro e w72 ⟨rfl, hb⟩; refine ⟨_, rfl, ?_⟩; replace BK319 := As (blk_below (kb BK319.out) hb); replace BK320 := As (blk_below (kb BK320.out) hb); replace HB := As (below_step (kB2 HB.out GE319.out GE320.out) hb); (try clear hb)))
      go_ret
      exact ⟨kE, by exact kB2 HB.out GE319.out GE320.out⟩
     rw [if_neg c65] at H
     exact absurd H (by simp)
    rw [if_neg c63] at H
    exact absurd H (by simp)
   replace c55 := Bool.eq_false_iff.mpr c55
   subst c55
   have H1 : (if a3 > 65535 then (some (⟨#[]⟩ : ByteArray)) else ((intrusionref02_number.f kj4 a2 2).bind fun t327 => (if (t323 ++ t324).size + t327.size ≤ 9223372036854775807 then ((intrusionref02_number.f kj4 a3 2).bind fun t328 => (if ((t323 ++ t324) ++ t327).size + t328.size ≤ 9223372036854775807 then (some (((t323 ++ t324) ++ t327) ++ t328)) else (none))) else (none)))) = some r := by rw [if_neg (show ¬ (false = true) by decide)] at H; exact H
   clear H
   have H := H1
   clear H1
   by_cases c73 : a3 > 65535
   ·rw [if_pos c73] at H
    have c73b0 : decide (65535 < a3) = true := decide_eq_true c73
    clear c73
    obtain rfl := Option.some.inj H
    try go_wp2
    replace BK319 := As (blk_drew BK319.out)
    replace BK320 := As (blk_drew BK320.out)
    replace HB := As (below_drew1 HB.out)
    refine start_ (n := 6) (S := fun w' => w'.cell? ⟨gb319, 0, none⟩ = some (.bool false) ∧ w'.cell? ⟨gb319, 1, none⟩ = some (.int .u64 b1) ∧ w'.cell? ⟨gb319, 2, none⟩ = some (.int .u64 b2) ∧ w'.cell? ⟨gb320, 0, none⟩ = some (.bool d0) ∧ w'.cell? ⟨gb320, 1, none⟩ = some (.int .u64 d1) ∧ w'.cell? ⟨gb320, 2, none⟩ = some (.int .u64 d2)) (ds := []) #[O, O, O, O, O, O] (by kernel_rfl) rfl rfl ⟨kC BK319.out 0, kC BK319.out 1, kC BK319.out 2, kC BK320.out 0, kC BK320.out 1, kC BK320.out 2⟩ (fun hHeld => ?_)
    generalize wc.drew = w74 at BK319 BK320 HB hHeld ⊢
    refine take_ (i := 0) (N := some 37) (v := ?_) (a' := ?_) #[I, O, O, O, O, O] rfl rfl (by kernel_rfl) (fun _ _ _ h => h) (Or.inl ⟨by rfl, ?_⟩) hHeld ?_ ?_
    rotate_left
    ·rintro w' ⟨s0, s1, s2, s3, s4, s5⟩
     go_simp
     with_reducible rfl
    rotate_left
    ·simp only [Act.put, sA, sZ, sS, i64_w, i32_w]
     rfl
    refine take_ (i := 2) (N := some 39) (v := ?_) (a' := ?_) #[I, O, I, O, O, O] rfl rfl (by kernel_rfl) (fun _ _ _ h => h) (Or.inl ⟨by rfl, ?_⟩) hHeld ?_ ?_
    rotate_left
    ·rintro w' ⟨s0, s1, s2, s3, s4, s5⟩
     go_simp
     with_reducible rfl
    rotate_left
    ·simp only [Act.put, sA, sZ, sS, i64_w, i32_w]
     rfl
    refine one_ (i := 1) (N := some 38) #[I, I, I, O, O, O] rfl rfl (by kernel_rfl) (by decide) (fun K hK => ?_)
    refine goes_ Tryd.func122 (by kernel_rfl) rfl #[.agg #[.bool false, .int .u64 b1, .int .u64 b2]] (by rfl) rfl rfl kA ?_
    with_reducible refine (intrusionref02_address.calls kj4 false b1 b2 t323 _ A52.out).mono ?_
    rintro e w75 ⟨rfl, hb⟩
    refine ⟨_, rfl, ?_⟩
    replace BK319 := As (blk_below (kb BK319.out) hb)
    replace BK320 := As (blk_below (kb BK320.out) hb)
    replace HB := As (below_step (kB2 HB.out GE319.out GE320.out) hb)
    (try clear hb)
    (try clear hb2)
    (try clear hk)
    (try clear hi)
    refine hK.out _ _ ⟨kC BK319.out 0, kC BK319.out 1, kC BK319.out 2, kC BK320.out 0, kC BK320.out 1, kC BK320.out 2⟩ (fun hHeld => ?_)
    clear hK K
    refine norm_ (a' := ?_) ?_ ?_
    rotate_left
    ·show Act.put _ (some 38) _ = _
     simp only [Act.put, sA, sZ, sS, i64_w, i32_w]
     rfl
    refine one_ (i := 3) (N := some 40) #[I, I, I, I, O, O] rfl rfl (by kernel_rfl) (by decide) (fun K hK => ?_)
    refine goes_ Tryd.func122 (by kernel_rfl) rfl #[.agg #[.bool d0, .int .u64 d1, .int .u64 d2]] (by rfl) rfl rfl kA ?_
    with_reducible refine (intrusionref02_address.calls kj4 d0 d1 d2 t324 _ A53.out).mono ?_
    rintro e w76 ⟨rfl, hb⟩
    refine ⟨_, rfl, ?_⟩
    replace BK319 := As (blk_below (kb BK319.out) hb)
    replace BK320 := As (blk_below (kb BK320.out) hb)
    replace HB := As (below_step (kB2 HB.out GE319.out GE320.out) hb)
    (try clear hb)
    (try clear hb2)
    (try clear hk)
    (try clear hi)
    refine hK.out _ _ ⟨kC BK319.out 0, kC BK319.out 1, kC BK319.out 2, kC BK320.out 0, kC BK320.out 1, kC BK320.out 2⟩ (fun hHeld => ?_)
    clear hK K
    refine norm_ (a' := ?_) ?_ ?_
    rotate_left
    ·show Act.put _ (some 40) _ = _
     simp only [Act.put, sA, sZ, sS, i64_w, i32_w]
     rfl
    refine pure_ (i := 4) (N := some 41) (v := ?_) (a' := ?_) #[I, I, I, I, I, O] rfl rfl (by kernel_rfl) (fun _ _ _ h => h) (Or.inl ⟨by rfl, ?_⟩) ?_ ?_
    rotate_left
    ·intro w'
     go_simp
     with_reducible rfl
    rotate_left
    ·simp only [Act.put, sA, sZ, sS, i64_w, i32_w]
     rfl
    refine pure_ (i := 5) (N := some 9) (v := ?_) (a' := ?_) #[I, I, I, I, I, I] rfl rfl (by kernel_rfl) (fun _ _ _ h => h) (Or.inl ⟨by rfl, ?_⟩) ?_ ?_
    rotate_left
    ·intro w'
     go_simp
     with_reducible rfl
    rotate_left
    ·simp only [Act.put, sA, sZ, sS, i64_w, i32_w]
     rfl
    refine done_ (by kernel_rfl) ?_
    have hnb77 := NB319_320.out
    have hnc77 := NB320_319.out
    have hcz78_0 := cells_3 BK319.out
    have hfz78_0 := fun j_ => blk_frozen BK319.out j_
    try go_wp2
    go_ret
    exact ⟨kE, by exact kB2 HB.out GE319.out GE320.out⟩
   rw [if_neg c73] at H
   have c73b0 : decide (65535 < a3) = false := decide_eq_false c73
   clear c73
   replace H := Option.bind_eq_some_iff.mp H
   obtain ⟨t327, A790, H⟩ := H
   replace H : (if (t323 ++ t324).size + t327.size ≤ 9223372036854775807 then ((intrusionref02_number.f kj4 a3 2).bind fun t328 => (if ((t323 ++ t324) ++ t327).size + t328.size ≤ 9223372036854775807 then (some (((t323 ++ t324) ++ t327) ++ t328)) else (none))) else (none)) = some r := H
   have A79 := As A790
   clear A790
   by_cases c80 : (t323 ++ t324).size + t327.size ≤ 9223372036854775807
   ·rw [if_pos c80] at H
    have c80b0 := eq_true c80
    have c80b1 : decide ((t323 ++ t324).size + t327.size ≤ 9223372036854775807) = true := decide_eq_true c80
    (try (have c80s0 : (9223372036854775807 < t323.size + t324.size + t327.size) = False := by have h_ := c80; simp only [ByteArray.size_append, ByteArray.size_extract] at h_; exact eq_false (by first | omega | (omega))))
    (try (have c80s1 : (9223372036854775807 < (t323.size + t324.size) + t327.size) = False := by have h_ := c80; simp only [ByteArray.size_append, ByteArray.size_extract] at h_; exact eq_false (by first | omega | (omega))))
    (try (have c80s2 : ((t323.size + t324.size) + t327.size ≤ 9223372036854775807) = True := by have h_ := c80; simp only [ByteArray.size_append, Int.natCast_add, Int.toNat_natCast] at h_; first | exact eq_true h_ | exact eq_true (by omega)))
    (try (have c80s3 : decide ((t323.size + t324.size) + t327.size ≤ 9223372036854775807) = true := by have h_ := c80; first | (simp only [ByteArray.size_append, Int.toNat_natCast] at h_; first | exact beq_iff_eq.mpr h_ | exact beq_eq_false_iff_ne.mpr h_ | exact bne_iff_ne.mpr h_ | exact bne_eq_false_iff_eq.mpr h_ | (rw [beq_iff_eq.mpr h_]; rfl) | (rw [beq_eq_false_iff_ne.mpr h_]; rfl)) | (simp only [ByteArray.size_append, Int.natCast_add, Int.toNat_natCast] at h_ ⊢; first | exact h_ | simpa using h_ | simp [h_] | omega) | (simp only [ByteArray.size_append] at h_; simp at h_ ⊢; omega) | (simp only [ByteArray.size_append, Int.natCast_add, Int.toNat_natCast] at h_; simpa using h_)))
    try have c80b2 : (9223372036854775807 < (t323 ++ t324).size + t327.size) = False := eq_false (Nat.not_lt.2 c80)
    replace H := Option.bind_eq_some_iff.mp H
    obtain ⟨t328, A810, H⟩ := H
    replace H : (if ((t323 ++ t324) ++ t327).size + t328.size ≤ 9223372036854775807 then (some (((t323 ++ t324) ++ t327) ++ t328)) else (none)) = some r := H
    have A81 := As A810
    clear A810
    by_cases c82 : ((t323 ++ t324) ++ t327).size + t328.size ≤ 9223372036854775807
    ·rw [if_pos c82] at H
     have c82b0 := eq_true c82
     have c82b1 : decide (((t323 ++ t324) ++ t327).size + t328.size ≤ 9223372036854775807) = true := decide_eq_true c82
     (try (have c82s0 : (9223372036854775807 < t323.size + t324.size + t327.size + t328.size) = False := by have h_ := c82; simp only [ByteArray.size_append, ByteArray.size_extract] at h_; exact eq_false (by first | omega | (omega))))
     (try (have c82s1 : (9223372036854775807 < (t323.size + t324.size + t327.size) + t328.size) = False := by have h_ := c82; simp only [ByteArray.size_append, ByteArray.size_extract] at h_; exact eq_false (by first | omega | (omega))))
     (try (have c82s2 : ((t323.size + t324.size + t327.size) + t328.size ≤ 9223372036854775807) = True := by have h_ := c82; simp only [ByteArray.size_append, Int.natCast_add, Int.toNat_natCast] at h_; first | exact eq_true h_ | exact eq_true (by omega)))
     (try (have c82s3 : decide ((t323.size + t324.size + t327.size) + t328.size ≤ 9223372036854775807) = true := by have h_ := c82; first | (simp only [ByteArray.size_append, Int.toNat_natCast] at h_; first | exact beq_iff_eq.mpr h_ | exact beq_eq_false_iff_ne.mpr h_ | exact bne_iff_ne.mpr h_ | exact bne_eq_false_iff_eq.mpr h_ | (rw [beq_iff_eq.mpr h_]; rfl) | (rw [beq_eq_false_iff_ne.mpr h_]; rfl)) | (simp only [ByteArray.size_append, Int.natCast_add, Int.toNat_natCast] at h_ ⊢; first | exact h_ | simpa using h_ | simp [h_] | omega) | (simp only [ByteArray.size_append] at h_; simp at h_ ⊢; omega) | (simp only [ByteArray.size_append, Int.natCast_add, Int.toNat_natCast] at h_; simpa using h_)))
     try have c82b2 : (9223372036854775807 < ((t323 ++ t324) ++ t327).size + t328.size) = False := eq_false (Nat.not_lt.2 c82)
     obtain rfl := Option.some.inj H
     try go_wp2
     replace BK319 := As (blk_drew BK319.out)
     replace BK320 := As (blk_drew BK320.out)
     replace HB := As (below_drew1 HB.out)
     refine start_ (n := 6) (S := fun w' => w'.cell? ⟨gb319, 0, none⟩ = some (.bool false) ∧ w'.cell? ⟨gb319, 1, none⟩ = some (.int .u64 b1) ∧ w'.cell? ⟨gb319, 2, none⟩ = some (.int .u64 b2) ∧ w'.cell? ⟨gb320, 0, none⟩ = some (.bool d0) ∧ w'.cell? ⟨gb320, 1, none⟩ = some (.int .u64 d1) ∧ w'.cell? ⟨gb320, 2, none⟩ = some (.int .u64 d2)) (ds := []) #[O, O, O, O, O, O] (by kernel_rfl) rfl rfl ⟨kC BK319.out 0, kC BK319.out 1, kC BK319.out 2, kC BK320.out 0, kC BK320.out 1, kC BK320.out 2⟩ (fun hHeld => ?_)
     generalize wc.drew = w83 at BK319 BK320 HB hHeld ⊢
     refine take_ (i := 0) (N := some 37) (v := ?_) (a' := ?_) #[I, O, O, O, O, O] rfl rfl (by kernel_rfl) (fun _ _ _ h => h) (Or.inl ⟨by rfl, ?_⟩) hHeld ?_ ?_
     rotate_left
     ·rintro w' ⟨s0, s1, s2, s3, s4, s5⟩
      go_simp
      with_reducible rfl
     rotate_left
     ·simp only [Act.put, sA, sZ, sS, i64_w, i32_w]
      rfl
     refine take_ (i := 2) (N := some 39) (v := ?_) (a' := ?_) #[I, O, I, O, O, O] rfl rfl (by kernel_rfl) (fun _ _ _ h => h) (Or.inl ⟨by rfl, ?_⟩) hHeld ?_ ?_
     rotate_left
     ·rintro w' ⟨s0, s1, s2, s3, s4, s5⟩
      go_simp
      with_reducible rfl
     rotate_left
     ·simp only [Act.put, sA, sZ, sS, i64_w, i32_w]
      rfl
     refine one_ (i := 1) (N := some 38) #[I, I, I, O, O, O] rfl rfl (by kernel_rfl) (by decide) (fun K hK => ?_)
     refine goes_ Tryd.func122 (by kernel_rfl) rfl #[.agg #[.bool false, .int .u64 b1, .int .u64 b2]] (by rfl) rfl rfl kA ?_
     with_reducible refine (intrusionref02_address.calls kj4 false b1 b2 t323 _ A52.out).mono ?_
     rintro e w84 ⟨rfl, hb⟩
     refine ⟨_, rfl, ?_⟩
     replace BK319 := As (blk_below (kb BK319.out) hb)
     replace BK320 := As (blk_below (kb BK320.out) hb)
     replace HB := As (below_step (kB2 HB.out GE319.out GE320.out) hb)
     (try clear hb)
     (try clear hb2)
     (try clear hk)
     (try clear hi)
     refine hK.out _ _ ⟨kC BK319.out 0, kC BK319.out 1, kC BK319.out 2, kC BK320.out 0, kC BK320.out 1, kC BK320.out 2⟩ (fun hHeld => ?_)
     clear hK K
     refine norm_ (a' := ?_) ?_ ?_
     rotate_left
     ·show Act.put _ (some 38) _ = _
      simp only [Act.put, sA, sZ, sS, i64_w, i32_w]
      rfl
     refine one_ (i := 3) (N := some 40) #[I, I, I, I, O, O] rfl rfl (by kernel_rfl) (by decide) (fun K hK => ?_)
     refine goes_ Tryd.func122 (by kernel_rfl) rfl #[.agg #[.bool d0, .int .u64 d1, .int .u64 d2]] (by rfl) rfl rfl kA ?_
     with_reducible refine (intrusionref02_address.calls kj4 d0 d1 d2 t324 _ A53.out).mono ?_
     rintro e w85 ⟨rfl, hb⟩
     refine ⟨_, rfl, ?_⟩
     replace BK319 := As (blk_below (kb BK319.out) hb)
     replace BK320 := As (blk_below (kb BK320.out) hb)
     replace HB := As (below_step (kB2 HB.out GE319.out GE320.out) hb)
     (try clear hb)
     (try clear hb2)
     (try clear hk)
     (try clear hi)
     refine hK.out _ _ ⟨kC BK319.out 0, kC BK319.out 1, kC BK319.out 2, kC BK320.out 0, kC BK320.out 1, kC BK320.out 2⟩ (fun hHeld => ?_)
     clear hK K
     refine norm_ (a' := ?_) ?_ ?_
     rotate_left
     ·show Act.put _ (some 40) _ = _
      simp only [Act.put, sA, sZ, sS, i64_w, i32_w]
      rfl
     refine pure_ (i := 4) (N := some 41) (v := ?_) (a' := ?_) #[I, I, I, I, I, O] rfl rfl (by kernel_rfl) (fun _ _ _ h => h) (Or.inl ⟨by rfl, ?_⟩) ?_ ?_
     rotate_left
     ·intro w'
      go_simp
      with_reducible rfl
     rotate_left
     ·simp only [Act.put, sA, sZ, sS, i64_w, i32_w]
      rfl
     refine pure_ (i := 5) (N := some 9) (v := ?_) (a' := ?_) #[I, I, I, I, I, I] rfl rfl (by kernel_rfl) (fun _ _ _ h => h) (Or.inl ⟨by rfl, ?_⟩) ?_ ?_
     rotate_left
     ·intro w'
      go_simp
      with_reducible rfl
     rotate_left
     ·simp only [Act.put, sA, sZ, sS, i64_w, i32_w]
      rfl
     refine done_ (by kernel_rfl) ?_
     have hnb86 := NB319_320.out
     have hnc86 := NB320_319.out
     have hcz87_0 := cells_3 BK319.out
     have hfz87_0 := fun j_ => blk_frozen BK319.out j_
     try go_wp2_with (first | ((with_reducible refine gate_callee (f := 123) rfl ?_); refine goesL_ (some 57) rfl rfl Tryd.func123 (by kernel_rfl) rfl #[.int .i64 a2, .int .i64 2] rfl kA ?_; (with_reducible refine (intrusionref02_number.calls kj4 a2 2 t327 _ A79.out).mono ?_); rintro e w88 ⟨rfl, hb⟩; refine ⟨_, rfl, ?_⟩; replace BK319 := As (blk_below (kb BK319.out) hb); replace BK320 := As (blk_below (kb BK320.out) hb); replace HB := As (below_step (kB2 HB.out GE319.out GE320.out) hb); (try clear hb)) | ((with_reducible refine gate_callee (f := 123) rfl ?_); refine goesL_ (some 60) rfl rfl Tryd.func123 (by kernel_rfl) rfl #[.int .i64 a3, .int .i64 2] rfl kA ?_; (with_reducible refine (intrusionref02_number.calls kj4 a3 2 t328 _ A81.out).mono ?_); rintro e w89 ⟨rfl, hb⟩; refine ⟨_, rfl, ?_⟩; replace BK319 := As (blk_below (kb BK319.out) hb); replace BK320 := As (blk_below (kb BK320.out) hb); replace HB := As (below_step (kB2 HB.out GE319.out GE320.out) hb); (try clear hb)))
     go_ret
     exact ⟨kE, by exact kB2 HB.out GE319.out GE320.out⟩
    rw [if_neg c82] at H
    exact absurd H (by simp)
   rw [if_neg c80] at H
   exact absurd H (by simp)
  rw [if_neg c54] at H
  exact absurd H (by simp)

/-! ### intrusionref13_Sum: function 94 -/
def intrusionref13_Sum.f (k : Nat) (a0_0 : Bool) (a0_1 : Int) (a0_2 : Int) (a1_0 : Bool) (a1_1 : Int) (a1_2 : Int) (a2 : ByteArray) : Option (Int) := (intrusionref02_Pseudo.f k a0_0 a0_1 a0_2 a1_0 a1_1 a1_2 17 (a2.size : Int)).bind fun t331 => (if t331.size + a2.size ≤ 9223372036854775807 then ((intrusionref02_Sum.f k (t331 ++ a2)).bind fun t332 => (if t332 = 0 then (some 65535) else (some t332))) else (none))
theorem intrusionref13_Sum.mono : ∀ a0 a1 a2 a3 a4 a5 a6 k, LeO (intrusionref13_Sum.f k a0 a1 a2 a3 a4 a5 a6) (intrusionref13_Sum.f (k + 1) a0 a1 a2 a3 a4 a5 a6) := by
 intro a0 a1 a2 a3 a4 a5 a6 k
 unfold intrusionref13_Sum.f
 repeat' first | with_reducible first | apply intrusionref02_Pseudo.mono | apply intrusionref02_Sum.mono | apply LeO.refl | apply LeO.none | refine LeO.ite ?_ ?_ | refine LeO.bind ?_ (fun _ => ?_)
set_option maxHeartbeats 8000000 in
set_option maxRecDepth 100000 in
theorem intrusionref13_Sum.calls (k : Nat) (a0_0 : Bool) (a0_1 : Int) (a0_2 : Int) (a1_0 : Bool) (a1_1 : Int) (a1_2 : Int) (a2 : ByteArray) (r : Int) (w : World) (h : intrusionref13_Sum.f k a0_0 a0_1 a0_2 a1_0 a1_1 a1_2 a2 = some r) :
  Calls Tryd.prog 94 #[.agg #[.bool a0_0, .int .u64 a0_1, .int .u64 a0_2], .agg #[.bool a1_0, .int .u64 a1_1, .int .u64 a1_2], .string a2] w fun e w' => e = .returned (.int .i64 r) ∧ Below w.heap.size w w' := by
 have hu24 := Tryd.underlying24
 have HB := As (Below.refl w.heap.size w)
 have H : ((intrusionref02_Pseudo.f k a0_0 a0_1 a0_2 a1_0 a1_1 a1_2 17 (a2.size : Int)).bind fun t331 => (if t331.size + a2.size ≤ 9223372036854775807 then ((intrusionref02_Sum.f k (t331 ++ a2)).bind fun t332 => (if t332 = 0 then (some 65535) else (some t332))) else (none))) = some r := h
 clear h
 replace H := Option.bind_eq_some_iff.mp H
 obtain ⟨t331, A40, H⟩ := H
 replace H : (if t331.size + a2.size ≤ 9223372036854775807 then ((intrusionref02_Sum.f k (t331 ++ a2)).bind fun t332 => (if t332 = 0 then (some 65535) else (some t332))) else (none)) = some r := H
 have A4 := As A40
 clear A40
 by_cases c5 : t331.size + a2.size ≤ 9223372036854775807
 ·rw [if_pos c5] at H
  have c5b0 := eq_true c5
  have c5b1 : decide (t331.size + a2.size ≤ 9223372036854775807) = true := decide_eq_true c5
  try have c5b2 : (9223372036854775807 < t331.size + a2.size) = False := eq_false (Nat.not_lt.2 c5)
  replace H := Option.bind_eq_some_iff.mp H
  obtain ⟨t332, A60, H⟩ := H
  replace H : (if t332 = 0 then (some 65535) else (some t332)) = some r := H
  have A6 := As A60
  clear A60
  by_cases c7 : t332 = 0
  ·rw [if_pos c7] at H
   have c7b0 : (t332 == 0) = true := beq_iff_eq.mpr c7
   have c7b1 : (t332 != 0) = false := bne_eq_false_iff_eq.mpr c7
   clear c7
   obtain rfl := Option.some.inj H
   go_enter Tryd.func94, Tryd.ntmps94
   go_wp2_with (first | ((with_reducible refine gate_dst (N := 3) rfl ?_); refine box_event rfl (N := 3) rfl (cs := #[.bool a0_0, .int .u64 a0_1, .int .u64 a0_2]) (t := 24) kG ?_; intro gb329 hg w8 hbox hb; have BK329 := As (hbox); have GW329 := As ((by rw [hg]; exact (below_size (kB HB.out)) : w.heap.size ≤ gb329)); have GE329 := As ((by rw [hg]; exact (below_size (kB HB.out)) : w.heap.size ≤ gb329)); replace HB := As (below_step (kB HB.out) hb); clear hb hbox hg) | ((with_reducible refine gate_dst (N := 4) rfl ?_); refine box_event rfl (N := 4) rfl (cs := #[.bool a1_0, .int .u64 a1_1, .int .u64 a1_2]) (t := 24) kG ?_; intro gb330 hg w9 hbox hb; have BK330 := As (hbox); have GW330 := As ((by rw [hg]; exact (below_size (kB1 HB.out GE329.out)) : w.heap.size ≤ gb330)); have GE330 := As ((by rw [hg]; exact (below_size (kB1 HB.out GE329.out)) : w.heap.size ≤ gb330)); replace HB := As (below_step (kB1 HB.out GE329.out) hb); have NB329_330 := As ((by rw [hg]; exact Nat.ne_of_lt (blk_lt (kb BK329.out)) : gb329 ≠ gb330)); have NB330_329 := As ((by rw [hg]; exact Nat.ne_of_gt (blk_lt (kb BK329.out)) : gb330 ≠ gb329)); replace BK329 := As (blk_below (kb BK329.out) hb); clear hb hbox hg; have hnb10 := NB329_330.out; have hnc10 := NB330_329.out; have hcz11_0 := cells_3 BK329.out; have hfz11_0 := fun j_ => blk_frozen BK329.out j_; have hcz12_0 := cells_3 BK330.out; have hfz12_0 := fun j_ => blk_frozen BK330.out j_) | ((with_reducible refine gate_callee (f := 115) rfl ?_); refine goesL_ (some 12) rfl rfl Tryd.func115 (by kernel_rfl) rfl #[.agg #[.bool a0_0, .int .u64 a0_1, .int .u64 a0_2], .agg #[.bool a1_0, .int .u64 a1_1, .int .u64 a1_2], .int .i64 17, .int .i64 (a2.size : Int)] rfl kA ?_; (with_reducible refine (intrusionref02_Pseudo.calls k a0_0 a0_1 a0_2 a1_0 a1_1 a1_2 17 (a2.size : Int) t331 _ A4.out).mono ?_); rintro e w13 ⟨rfl, hb⟩; refine ⟨_, rfl, ?_⟩; replace BK329 := As (blk_below (kb BK329.out) hb); replace BK330 := As (blk_below (kb BK330.out) hb); replace HB := As (below_step (kB2 HB.out GE329.out GE330.out) hb); (try clear hb)) | ((with_reducible refine gate_callee (f := 34) rfl ?_); refine goesL_ (some 15) rfl rfl Tryd.func34 (by kernel_rfl) rfl #[.string (t331 ++ a2)] rfl kA ?_; (with_reducible refine (intrusionref02_Sum.calls k (t331 ++ a2) t332 _ A6.out).mono ?_); rintro e w' ⟨rfl, ⟨nd, rfl⟩⟩; refine ⟨_, rfl, ?_⟩))
   go_ret
   exact ⟨kE, by exact kB2 HB.out GE329.out GE330.out⟩
  rw [if_neg c7] at H
  have c7b0 : (t332 == 0) = false := beq_eq_false_iff_ne.mpr c7
  have c7b1 : (t332 != 0) = true := bne_iff_ne.mpr c7
  obtain rfl := Option.some.inj H
  go_enter Tryd.func94, Tryd.ntmps94
  go_wp2_with (first | ((with_reducible refine gate_dst (N := 3) rfl ?_); refine box_event rfl (N := 3) rfl (cs := #[.bool a0_0, .int .u64 a0_1, .int .u64 a0_2]) (t := 24) kG ?_; intro gb329 hg w14 hbox hb; have BK329 := As (hbox); have GW329 := As ((by rw [hg]; exact (below_size (kB HB.out)) : w.heap.size ≤ gb329)); have GE329 := As ((by rw [hg]; exact (below_size (kB HB.out)) : w.heap.size ≤ gb329)); replace HB := As (below_step (kB HB.out) hb); clear hb hbox hg) | ((with_reducible refine gate_dst (N := 4) rfl ?_); refine box_event rfl (N := 4) rfl (cs := #[.bool a1_0, .int .u64 a1_1, .int .u64 a1_2]) (t := 24) kG ?_; intro gb330 hg w15 hbox hb; have BK330 := As (hbox); have GW330 := As ((by rw [hg]; exact (below_size (kB1 HB.out GE329.out)) : w.heap.size ≤ gb330)); have GE330 := As ((by rw [hg]; exact (below_size (kB1 HB.out GE329.out)) : w.heap.size ≤ gb330)); replace HB := As (below_step (kB1 HB.out GE329.out) hb); have NB329_330 := As ((by rw [hg]; exact Nat.ne_of_lt (blk_lt (kb BK329.out)) : gb329 ≠ gb330)); have NB330_329 := As ((by rw [hg]; exact Nat.ne_of_gt (blk_lt (kb BK329.out)) : gb330 ≠ gb329)); replace BK329 := As (blk_below (kb BK329.out) hb); clear hb hbox hg; have hnb16 := NB329_330.out; have hnc16 := NB330_329.out; have hcz17_0 := cells_3 BK329.out; have hfz17_0 := fun j_ => blk_frozen BK329.out j_; have hcz18_0 := cells_3 BK330.out; have hfz18_0 := fun j_ => blk_frozen BK330.out j_) | ((with_reducible refine gate_callee (f := 115) rfl ?_); refine goesL_ (some 12) rfl rfl Tryd.func115 (by kernel_rfl) rfl #[.agg #[.bool a0_0, .int .u64 a0_1, .int .u64 a0_2], .agg #[.bool a1_0, .int .u64 a1_1, .int .u64 a1_2], .int .i64 17, .int .i64 (a2.size : Int)] rfl kA ?_; (with_reducible refine (intrusionref02_Pseudo.calls k a0_0 a0_1 a0_2 a1_0 a1_1 a1_2 17 (a2.size : Int) t331 _ A4.out).mono ?_); rintro e w19 ⟨rfl, hb⟩; refine ⟨_, rfl, ?_⟩; replace BK329 := As (blk_below (kb BK329.out) hb); replace BK330 := As (blk_below (kb BK330.out) hb); replace HB := As (below_step (kB2 HB.out GE329.out GE330.out) hb); (try clear hb)) | ((with_reducible refine gate_callee (f := 34) rfl ?_); refine goesL_ (some 15) rfl rfl Tryd.func34 (by kernel_rfl) rfl #[.string (t331 ++ a2)] rfl kA ?_; (with_reducible refine (intrusionref02_Sum.calls k (t331 ++ a2) t332 _ A6.out).mono ?_); rintro e w' ⟨rfl, ⟨nd, rfl⟩⟩; refine ⟨_, rfl, ?_⟩))
  go_ret
  exact ⟨kE, by exact kB2 HB.out GE329.out GE330.out⟩
 rw [if_neg c5] at H
 exact absurd H (by simp)

end Go.Proofs.YtocobalkikkhlaaDoor.X
-- short
