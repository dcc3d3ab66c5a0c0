/- Functions and their walks, printed by xprint.py. -/
import Derived.Test.YtocobalkikkhlaaDoorX0
import Derived.Test.YtocobalkikkhlaaDoorX6
namespace Go.Proofs.YtocobalkikkhlaaDoor.X
open Go.RowKit Go.Proofs.YtocobalkikkhlaaDoorW.PrintWords Go.Proofs.YtocobalkikkhlaaDoorW.PrintLast Go.Proofs.YtocobalkikkhlaaDoorW.PrintMore
attribute [local go_sem] max2_int min2_int max_two min_two max_three min_three max_four min_four   -- for this text's walks alone
set_option linter.unusedVariables false
set_option linter.unusedSimpArgs false

/-! ### checksum_Pseudo: function 113 -/
mutual
def checksum_Pseudo.j0 : Nat → Int → Int → Int → Bool → Int → Int → Bool → Int → Int → Option (ByteArray)
 | 0, _, _, _, _, _, _, _, _, _ => none
 | k + 1, x2, x3, x9, x214000, x214001, x214002, x215000, x215001, x215002 => (checksum_valid.f x214000 x214001 x214002).bind fun t215 => (if t215 = true then ((checksum_valid.f x215000 x215001 x215002).bind fun t216 => (if t216 = true then (if (x214000 != x215000) = true then (checksum_Pseudo.j1 k x2 x3 true x214000 x214001 x214002 x215000 x215001 x215002) else (if x2 < 0 then (checksum_Pseudo.j1 k x2 x3 true x214000 x214001 x214002 x215000 x215001 x215002) else (if x2 > 255 then (checksum_Pseudo.j1 k x2 x3 true x214000 x214001 x214002 x215000 x215001 x215002) else (if x3 < 0 then (checksum_Pseudo.j1 k x2 x3 true x214000 x214001 x214002 x215000 x215001 x215002) else (checksum_Pseudo.j1 k x2 x3 (decide (x3 > x9)) x214000 x214001 x214002 x215000 x215001 x215002))))) else (checksum_Pseudo.j1 k x2 x3 true x214000 x214001 x214002 x215000 x215001 x215002))) else (checksum_Pseudo.j1 k x2 x3 true x214000 x214001 x214002 x215000 x215001 x215002))
def checksum_Pseudo.j1 : Nat → Int → Int → Bool → Bool → Int → Int → Bool → Int → Int → Option (ByteArray)
 | 0, _, _, _, _, _, _, _, _, _ => none
 | k + 1, x2, x3, x43, x214000, x214001, x214002, x215000, x215001, x215002 => if x43 = true then (some (⟨#[]⟩ : ByteArray)) else (if x214000 = true then ((checksum_number.f x214001 8).bind fun t217 => ((checksum_number.f x214002 8).bind fun t218 => (if t217.size + t218.size ≤ 9223372036854775807 then ((checksum_number.f x215001 8).bind fun t219 => (if (t217 ++ t218).size + t219.size ≤ 9223372036854775807 then ((checksum_number.f x215002 8).bind fun t220 => (if ((t217 ++ t218) ++ t219).size + t220.size ≤ 9223372036854775807 then ((checksum_number.f (IntKind.u64.wrap (x3)) 4).bind fun t221 => (if (((t217 ++ t218) ++ t219) ++ t220).size + t221.size ≤ 9223372036854775807 then ((checksum_number.f (IntKind.u64.wrap (x2)) 4).bind fun t222 => (if ((((t217 ++ t218) ++ t219) ++ t220) ++ t221).size + t222.size ≤ 9223372036854775807 then (some (((((t217 ++ t218) ++ t219) ++ t220) ++ t221) ++ t222)) else (none))) else (none))) else (none))) else (none))) else (none)))) else ((checksum_number.f x214002 4).bind fun t223 => ((checksum_number.f x215002 4).bind fun t224 => (if t223.size + t224.size ≤ 9223372036854775807 then ((checksum_number.f (IntKind.u64.wrap (x2)) 2).bind fun t225 => (if (t223 ++ t224).size + t225.size ≤ 9223372036854775807 then ((checksum_number.f (IntKind.u64.wrap (x3)) 2).bind fun t226 => (if ((t223 ++ t224) ++ t225).size + t226.size ≤ 9223372036854775807 then (some (((t223 ++ t224) ++ t225) ++ t226)) else (none))) else (none))) else (none)))))
end
def checksum_Pseudo.f (k : Nat) (b0 : Bool) (b1 : Int) (b2 : Int) (d0 : Bool) (d1 : Int) (d2 : Int) (a2 : Int) (a3 : Int) : Option (ByteArray) := if b0 = true then (checksum_Pseudo.j0 k a2 a3 4294967295 b0 b1 b2 d0 d1 d2) else (checksum_Pseudo.j0 k a2 a3 65535 b0 b1 b2 d0 d1 d2)
theorem checksum_Pseudo.mono_l : ∀ k, (∀ y0 y1 y2 y3 y4 y5 y6 y7 y8, LeO (checksum_Pseudo.j0 k y0 y1 y2 y3 y4 y5 y6 y7 y8) (checksum_Pseudo.j0 (k + 1) y0 y1 y2 y3 y4 y5 y6 y7 y8)) ∧ (∀ y0 y1 y2 y3 y4 y5 y6 y7 y8, LeO (checksum_Pseudo.j1 k y0 y1 y2 y3 y4 y5 y6 y7 y8) (checksum_Pseudo.j1 (k + 1) y0 y1 y2 y3 y4 y5 y6 y7 y8))
 | 0 => ⟨fun _ _ _ _ _ _ _ _ _ r h => by simp [checksum_Pseudo.j0] at h, fun _ _ _ _ _ _ _ _ _ r h => by simp [checksum_Pseudo.j1] at h⟩
 | k + 1 => by
  obtain ⟨ih0, ih1⟩ := checksum_Pseudo.mono_l k
  refine ⟨?_, ?_⟩
  ·intro y0 y1 y2 y3 y4 y5 y6 y7 y8
   unfold checksum_Pseudo.j0
   repeat' first | with_reducible first | apply ih0 | apply ih1 | apply LeO.refl | apply LeO.none | refine LeO.ite ?_ ?_ | refine LeO.bind ?_ (fun _ => ?_)
  intro y0 y1 y2 y3 y4 y5 y6 y7 y8
  unfold checksum_Pseudo.j1
  repeat' first | with_reducible first | apply ih0 | apply ih1 | apply LeO.refl | apply LeO.none | refine LeO.ite ?_ ?_ | refine LeO.bind ?_ (fun _ => ?_)
theorem checksum_Pseudo.mono : ∀ a0 a1 a2 a3 a4 a5 a6 a7 k, LeO (checksum_Pseudo.f k a0 a1 a2 a3 a4 a5 a6 a7) (checksum_Pseudo.f (k + 1) a0 a1 a2 a3 a4 a5 a6 a7) := by
 intro a0 a1 a2 a3 a4 a5 a6 a7 k
 obtain ⟨ih0, ih1⟩ := checksum_Pseudo.mono_l k
 unfold checksum_Pseudo.f
 repeat' first | with_reducible first | apply ih0 | apply ih1 | apply LeO.refl | apply LeO.none | refine LeO.ite ?_ ?_ | refine LeO.bind ?_ (fun _ => ?_)
def checksum_Pseudo.T7 : Bool × List (List Nat × List Nat) := (true, [([], []), ([0], [0]), ([1], [1]), ([], []), ([3], [3]), ([4, 2], [4]), ([2, 5], [2, 5]), ([], []), ([7], [7]), ([8, 5], [8]), ([6, 9], [6, 9]), ([], []), ([11], [11]), ([12, 9], [12]), ([10, 13], [10, 13]), ([], []), ([15], [15]), ([16, 13], [16]), ([14, 17], [14, 17]), ([], []), ([19], [19]), ([20, 17], [20]), ([18, 21], [18, 21]), ([22, 21, 0, 1, 2, 3, 4, 5, 6, 7, 8, 9, 10, 11, 12, 13, 14, 15, 16, 17, 18, 19, 20, 21, 22], [22])])
def checksum_Pseudo.B7 : List Nat := [0, 1, 3, 0, 8, 31, 63, 0, 128, 447, 1023, 0, 2048, 7103, 16383, 0, 32768, 113599, 262143, 0, 524288, 1817535, 4194303, 8388607]
theorem checksum_Pseudo.tab7 : rtab .any (opsOf Tryd.f113 7) = checksum_Pseudo.T7 := by kernel_rfl
theorem checksum_Pseudo.bits7 : waitsOk checksum_Pseudo.T7.2 checksum_Pseudo.B7 = true := by kernel_rfl
def checksum_Pseudo.T8 : Bool × List (List Nat × List Nat) := (true, [([], []), ([0], [0]), ([1], [1]), ([], []), ([3], [3]), ([4, 2], [4]), ([2, 5], [2, 5]), ([], []), ([7], [7]), ([8, 5], [8]), ([6, 9], [6, 9]), ([], []), ([11], [11]), ([12, 9], [12]), ([10, 13], [10, 13]), ([14, 13, 0, 1, 2, 3, 4, 5, 6, 7, 8, 9, 10, 11, 12, 13, 14], [14])])
def checksum_Pseudo.B8 : List Nat := [0, 1, 3, 0, 8, 31, 63, 0, 128, 447, 1023, 0, 2048, 7103, 16383, 32767]
theorem checksum_Pseudo.tab8 : rtab .any (opsOf Tryd.f113 8) = checksum_Pseudo.T8 := by kernel_rfl
theorem checksum_Pseudo.bits8 : waitsOk checksum_Pseudo.T8.2 checksum_Pseudo.B8 = true := by kernel_rfl
set_option maxHeartbeats 8000000 in
set_option maxRecDepth 100000 in
theorem checksum_Pseudo.calls (k : Nat) (b0 : Bool) (b1 : Int) (b2 : Int) (d0 : Bool) (d1 : Int) (d2 : Int) (a2 : Int) (a3 : Int) (r : ByteArray) (w : World) (hLd : Laid w) (h : checksum_Pseudo.f k b0 b1 b2 d0 d1 d2 a2 a3 = some r) :
  Calls Tryd.prog 113 #[.agg #[.bool b0, .int .u64 b1, .int .u64 b2], .agg #[.bool d0, .int .u64 d1, .int .u64 d2], .int .i64 a2, .int .i64 a3] w fun e w' => e = .returned (.string r) ∧ Below w.heap.size w w' := by
 have hu24 := Tryd.underlying24
 have HLD := As hLd
 clear hLd
 have HB := As (Below.refl w.heap.size w)
 have H : (if b0 = true then (checksum_Pseudo.j0 k a2 a3 4294967295 b0 b1 b2 d0 d1 d2) else (checksum_Pseudo.j0 k a2 a3 65535 b0 b1 b2 d0 d1 d2)) = some r := h
 clear h
 have HC5 := As H
 clear H
 go_enter Tryd.func113, Tryd.ntmps113
 go_upto_if 11 with (first | ((with_reducible refine gate_dst (N := 4) rfl ?_); refine box_event rfl (N := 4) rfl (cs := #[.bool b0, .int .u64 b1, .int .u64 b2]) (t := 24) kG ?_; intro gb213 hg w6 hbox hb; have BK213 := As (hbox); have GW213 := As ((by rw [hg]; exact (below_size (kB HB.out)) : w.heap.size ≤ gb213)); have GE213 := As ((by rw [hg]; exact (below_size (kB HB.out)) : w.heap.size ≤ gb213)); replace HB := As (below_step (kB HB.out) hb); clear hb hbox hg) | ((with_reducible refine gate_dst (N := 5) rfl ?_); refine box_event rfl (N := 5) rfl (cs := #[.bool d0, .int .u64 d1, .int .u64 d2]) (t := 24) kG ?_; intro gb214 hg w7 hbox hb; have BK214 := As (hbox); have GW214 := As ((by rw [hg]; exact (below_size (kB1 HB.out GE213.out)) : w.heap.size ≤ gb214)); have GE214 := As ((by rw [hg]; exact (below_size (kB1 HB.out GE213.out)) : w.heap.size ≤ gb214)); replace HB := As (below_step (kB1 HB.out GE213.out) hb); have NB213_214 := As ((by rw [hg]; exact Nat.ne_of_lt (blk_lt (kb BK213.out)) : gb213 ≠ gb214)); have NB214_213 := As ((by rw [hg]; exact Nat.ne_of_gt (blk_lt (kb BK213.out)) : gb214 ≠ gb213)); replace BK213 := As (blk_below (kb BK213.out) hb); clear hb hbox hg; have hnb8 := NB213_214.out; have hnc8 := NB214_213.out; have hcz9_0 := cells_3 BK213.out; have hfz9_0 := fun j_ => blk_frozen BK213.out j_))
 (try simp only [Act.put, sA, sZ, sS])
 go_cut [9] (fun v9 wc => ∃ (kq : Nat) (x9_4 : Int), v9 = .int .i64 x9_4 ∧ Aside0 (checksum_Pseudo.j0 kq a2 a3 x9_4 b0 b1 b2 d0 d1 d2 = some r) ∧ Aside0 (kq ≤ k) ∧ Aside0 (wc.heap[gb213]? = some (.cells #[.bool b0, .int .u64 b1, .int .u64 b2] 24 (0, 0))) ∧ Aside0 (wc.heap[gb214]? = some (.cells #[.bool d0, .int .u64 d1, .int .u64 d2] 24 (0, 0))) ∧ Aside0 (Below w.heap.size w wc))
 case first =>
  have H := HC5.out
  clear HC5
  by_cases c10 : b0 = true
  ·subst c10
   have H1 : (checksum_Pseudo.j0 k a2 a3 4294967295 true b1 b2 d0 d1 d2) = some r := by rw [if_pos rfl] at H; exact H
   clear H
   have H := H1
   clear H1
   have H' := As H
   clear H
   go_wp2
   go_meet
   case rel => exact ⟨_, (4294967295), kS, H', ⟨by first | omega | exact Nat.le_refl _⟩, ⟨kb BK213.out⟩, ⟨kb BK214.out⟩, ⟨kB2 HB.out GE213.out GE214.out⟩⟩
  replace c10 := Bool.eq_false_iff.mpr c10
  subst c10
  have H1 : (checksum_Pseudo.j0 k a2 a3 65535 false b1 b2 d0 d1 d2) = some r := by rw [if_neg (show ¬ (false = true) by decide)] at H; exact H
  clear H
  have H := H1
  clear H1
  have H' := As H
  clear H
  go_wp2
  go_meet
  case rel => exact ⟨_, (65535), kS, H', ⟨by first | omega | exact Nat.le_refl _⟩, ⟨kb BK213.out⟩, ⟨kb BK214.out⟩, ⟨kB2 HB.out GE213.out GE214.out⟩⟩
 clear HC5
 try clear hcz9_0
 try clear hfz9_0
 obtain ⟨kq, x9_4, rfl, HA, HJ4, BK213, BK214, HB⟩ := hcut
 cases kq with
 | zero => exact absurd HA.out (by simp [checksum_Pseudo.j0])
 | succ kj4 =>
  have H := HA.out
  clear HA
  simp only [checksum_Pseudo.j0] at H
  have HC11 := As H
  clear H
  go_upto_region 4 with (fail)
  go_cut [43] (fun v43 wc => ∃ (kq : Nat) (x43_10 : Bool), v43 = .bool x43_10 ∧ Aside0 (checksum_Pseudo.j1 kq a2 a3 x43_10 b0 b1 b2 d0 d1 d2 = some r) ∧ Aside0 (kq ≤ kj4) ∧ Aside0 (wc.heap[gb213]? = some (.cells #[.bool b0, .int .u64 b1, .int .u64 b2] 24 (0, 0))) ∧ Aside0 (wc.heap[gb214]? = some (.cells #[.bool d0, .int .u64 d1, .int .u64 d2] 24 (0, 0))) ∧ Aside0 (Below w.heap.size w wc))
  case first =>
   have H := HC11.out
   clear HC11
   replace H := Option.bind_eq_some_iff.mp H
   obtain ⟨t215, A120, H⟩ := H
   replace H : (if t215 = true then ((checksum_valid.f d0 d1 d2).bind fun t216 => (if t216 = true then (if (b0 != d0) = true then (checksum_Pseudo.j1 kj4 a2 a3 true b0 b1 b2 d0 d1 d2) else (if a2 < 0 then (checksum_Pseudo.j1 kj4 a2 a3 true b0 b1 b2 d0 d1 d2) else (if a2 > 255 then (checksum_Pseudo.j1 kj4 a2 a3 true b0 b1 b2 d0 d1 d2) else (if a3 < 0 then (checksum_Pseudo.j1 kj4 a2 a3 true b0 b1 b2 d0 d1 d2) else (checksum_Pseudo.j1 kj4 a2 a3 (decide (a3 > x9_4)) b0 b1 b2 d0 d1 d2))))) else (checksum_Pseudo.j1 kj4 a2 a3 true b0 b1 b2 d0 d1 d2))) else (checksum_Pseudo.j1 kj4 a2 a3 true b0 b1 b2 d0 d1 d2)) = some r := H
   have A12 := As A120
   clear A120
   by_cases c13 : t215 = true
   ·subst c13
    have H1 : ((checksum_valid.f d0 d1 d2).bind fun t216 => (if t216 = true then (if (b0 != d0) = true then (checksum_Pseudo.j1 kj4 a2 a3 true b0 b1 b2 d0 d1 d2) else (if a2 < 0 then (checksum_Pseudo.j1 kj4 a2 a3 true b0 b1 b2 d0 d1 d2) else (if a2 > 255 then (checksum_Pseudo.j1 kj4 a2 a3 true b0 b1 b2 d0 d1 d2) else (if a3 < 0 then (checksum_Pseudo.j1 kj4 a2 a3 true b0 b1 b2 d0 d1 d2) else (checksum_Pseudo.j1 kj4 a2 a3 (decide (a3 > x9_4)) b0 b1 b2 d0 d1 d2))))) else (checksum_Pseudo.j1 kj4 a2 a3 true b0 b1 b2 d0 d1 d2))) = some r := by rw [if_pos rfl] at H; exact H
    clear H
    have H := H1
    clear H1
    replace H := Option.bind_eq_some_iff.mp H
    obtain ⟨t216, A140, H⟩ := H
    replace H : (if t216 = true then (if (b0 != d0) = true then (checksum_Pseudo.j1 kj4 a2 a3 true b0 b1 b2 d0 d1 d2) else (if a2 < 0 then (checksum_Pseudo.j1 kj4 a2 a3 true b0 b1 b2 d0 d1 d2) else (if a2 > 255 then (checksum_Pseudo.j1 kj4 a2 a3 true b0 b1 b2 d0 d1 d2) else (if a3 < 0 then (checksum_Pseudo.j1 kj4 a2 a3 true b0 b1 b2 d0 d1 d2) else (checksum_Pseudo.j1 kj4 a2 a3 (decide (a3 > x9_4)) b0 b1 b2 d0 d1 d2))))) else (checksum_Pseudo.j1 kj4 a2 a3 true b0 b1 b2 d0 d1 d2)) = some r := H
    have A14 := As A140
    clear A140
    by_cases c15 : t216 = true
    ·subst c15
     have H1 : (if (b0 != d0) = true then (checksum_Pseudo.j1 kj4 a2 a3 true b0 b1 b2 d0 d1 d2) else (if a2 < 0 then (checksum_Pseudo.j1 kj4 a2 a3 true b0 b1 b2 d0 d1 d2) else (if a2 > 255 then (checksum_Pseudo.j1 kj4 a2 a3 true b0 b1 b2 d0 d1 d2) else (if a3 < 0 then (checksum_Pseudo.j1 kj4 a2 a3 true b0 b1 b2 d0 d1 d2) else (checksum_Pseudo.j1 kj4 a2 a3 (decide (a3 > x9_4)) b0 b1 b2 d0 d1 d2))))) = some r := by rw [if_pos rfl] at H; exact H
     clear H
     have H := H1
     clear H1
     by_cases c16 : (b0 != d0) = true
     ·rw [if_pos c16] at H
      have c16b0 : (b0 != d0) = true := c16
      (try (have c16b1 : decide (b0 = d0) = false := by simpa using c16))
      (try (have c16b2 : (b0 == d0) = false := by simpa using c16))
      (try (have c16b3 : ¬ (b0 = d0) := by simpa using c16))
      clear c16
      (first | rw [c16b0] | (simp only [i64_w, i32_w]; rw [c16b0]) | rw [c16b2] | rw [c16b3] | skip)
      have H' := As H
      clear H
      have hnb17 := NB213_214.out
      have hnc17 := NB214_213.out
      have hcz18_0 := cells_3 BK213.out
      have hfz18_0 := fun j_ => blk_frozen BK213.out j_
      go_wp2_with (first | ((with_reducible refine gate_callee (f := 119) rfl ?_); refine goesL_ (some 13) rfl rfl Tryd.func119 (by kernel_rfl) rfl #[.agg #[.bool b0, .int .u64 b1, .int .u64 b2]] rfl kA ?_; (with_reducible refine (checksum_valid.calls b0 b1 b2 true _ A12.out).mono ?_); rintro e w19 ⟨rfl, hb⟩; refine ⟨_, rfl, ?_⟩; replace BK213 := As (blk_below (kb BK213.out) hb); replace BK214 := As (blk_below (kb BK214.out) hb); replace HB := As (below_step (kB2 HB.out GE213.out GE214.out) hb); (try clear hb); have hcz20_0 := cells_3 BK214.out; have hfz20_0 := fun j_ => blk_frozen BK214.out j_) | (go_at_call 119; (with_reducible refine (checksum_valid.calls d0 d1 d2 true _ A14.out).mono ?_); rintro e w21 ⟨rfl, hb⟩; replace BK213 := As (blk_below (kb BK213.out) hb); replace BK214 := As (blk_below (kb BK214.out) hb); replace HB := As (below_step (kB2 HB.out GE213.out GE214.out) hb); (try clear hb); have hcz22_0 := cells_3 BK213.out; have hfz22_0 := fun j_ => blk_frozen BK213.out j_; have hcz23_0 := cells_3 BK214.out; have hfz23_0 := fun j_ => blk_frozen BK214.out j_))
      go_meet
      case rel => exact ⟨_, (true), kS, H', ⟨by have := HJ4.out; first | omega | exact Nat.le_refl _⟩, ⟨kb BK213.out⟩, ⟨kb BK214.out⟩, ⟨kB2 HB.out GE213.out GE214.out⟩⟩
     rw [if_neg c16] at H
     have c16b0 : (b0 != d0) = false := by simpa using c16
     (try (have c16b1 : decide (b0 = d0) = true := by simpa using c16))
     (try (have c16b2 : (b0 == d0) = true := by simpa using c16))
     clear c16
     (first | rw [c16b0] | (simp only [i64_w, i32_w]; rw [c16b0]) | rw [c16b2] | rw [c16b3] | skip)
     by_cases c24 : a2 < 0
     ·rw [if_pos c24] at H
      have c24b0 : decide (a2 < 0) = true := decide_eq_true c24
      clear c24
      have H' := As H
      clear H
      have hnb25 := NB213_214.out
      have hnc25 := NB214_213.out
      have hcz26_0 := cells_3 BK213.out
      have hfz26_0 := fun j_ => blk_frozen BK213.out j_
      go_wp2_with (first | ((with_reducible refine gate_callee (f := 119) rfl ?_); refine goesL_ (some 13) rfl rfl Tryd.func119 (by kernel_rfl) rfl #[.agg #[.bool b0, .int .u64 b1, .int .u64 b2]] rfl kA ?_; (with_reducible refine (checksum_valid.calls b0 b1 b2 true _ A12.out).mono ?_); rintro e w27 ⟨rfl, hb⟩; refine ⟨_, rfl, ?_⟩; replace BK213 := As (blk_below (kb BK213.out) hb); replace BK214 := As (blk_below (kb BK214.out) hb); replace HB := As (below_step (kB2 HB.out GE213.out GE214.out) hb); (try clear hb); have hcz28_0 := cells_3 BK214.out; have hfz28_0 := fun j_ => blk_frozen BK214.out j_) | (go_at_call 119; (with_reducible refine (checksum_valid.calls d0 d1 d2 true _ A14.out).mono ?_); rintro e w29 ⟨rfl, hb⟩; replace BK213 := As (blk_below (kb BK213.out) hb); replace BK214 := As (blk_below (kb BK214.out) hb); replace HB := As (below_step (kB2 HB.out GE213.out GE214.out) hb); (try clear hb); have hcz30_0 := cells_3 BK213.out; have hfz30_0 := fun j_ => blk_frozen BK213.out j_; have hcz31_0 := cells_3 BK214.out; have hfz31_0 := fun j_ => blk_frozen BK214.out j_))
      go_meet
      case rel => exact ⟨_, (true), kS, H', ⟨by have := HJ4.out; first | omega | exact Nat.le_refl _⟩, ⟨kb BK213.out⟩, ⟨kb BK214.out⟩, ⟨kB2 HB.out GE213.out GE214.out⟩⟩
     rw [if_neg c24] at H
     have c24b0 : decide (a2 < 0) = false := decide_eq_false c24
     clear c24
     by_cases c32 : a2 > 255
     ·rw [if_pos c32] at H
      have c32b0 : decide (255 < a2) = true := decide_eq_true c32
      clear c32
      have H' := As H
      clear H
      have hnb33 := NB213_214.out
      have hnc33 := NB214_213.out
      have hcz34_0 := cells_3 BK213.out
      have hfz34_0 := fun j_ => blk_frozen BK213.out j_
      go_wp2_with (first | ((with_reducible refine gate_callee (f := 119) rfl ?_); refine goesL_ (some 13) rfl rfl Tryd.func119 (by kernel_rfl) rfl #[.agg #[.bool b0, .int .u64 b1, .int .u64 b2]] rfl kA ?_; (with_reducible refine (checksum_valid.calls b0 b1 b2 true _ A12.out).mono ?_); rintro e w35 ⟨rfl, hb⟩; refine ⟨_, rfl, ?_⟩; replace BK213 := As (blk_below (kb BK213.out) hb); replace BK214 := As (blk_below (kb BK214.out) hb); replace HB := As (below_step (kB2 HB.out GE213.out GE214.out) hb); (try clear hb); have hcz36_0 := cells_3 BK214.out; have hfz36_0 := fun j_ => blk_frozen BK214.out j_) | (go_at_call 119; (with_reducible refine (checksum_valid.calls d0 d1 d2 true _ A14.out).mono ?_); rintro e w37 ⟨rfl, hb⟩; replace BK213 := As (blk_below (kb BK213.out) hb); replace BK214 := As (blk_below (kb BK214.out) hb); replace HB := As (below_step (kB2 HB.out GE213.out GE214.out) hb); (try clear hb); have hcz38_0 := cells_3 BK213.out; have hfz38_0 := fun j_ => blk_frozen BK213.out j_; have hcz39_0 := cells_3 BK214.out; have hfz39_0 := fun j_ => blk_frozen BK214.out j_))
      go_meet
      case rel => exact ⟨_, (true), kS, H', ⟨by have := HJ4.out; first | omega | exact Nat.le_refl _⟩, ⟨kb BK213.out⟩, ⟨kb BK214.out⟩, ⟨kB2 HB.out GE213.out GE214.out⟩⟩
     rw [if_neg c32] at H
     have c32b0 : decide (255 < a2) = false := decide_eq_false c32
     clear c32
     by_cases c40 : a3 < 0
     ·rw [if_pos c40] at H
      have c40b0 : decide (a3 < 0) = true := decide_eq_true c40
      clear c40
      have H' := As H
      clear H
      have hnb41 := NB213_214.out
      have hnc41 := NB214_213.out
      have hcz42_0 := cells_3 BK213.out
      have hfz42_0 := fun j_ => blk_frozen BK213.out j_
      go_wp2_with (first | ((with_reducible refine gate_callee (f := 119) rfl ?_); refine goesL_ (some 13) rfl rfl Tryd.func119 (by kernel_rfl) rfl #[.agg #[.bool b0, .int .u64 b1, .int .u64 b2]] rfl kA ?_; (with_reducible refine (checksum_valid.calls b0 b1 b2 true _ A12.out).mono ?_); rintro e w43 ⟨rfl, hb⟩; refine ⟨_, rfl, ?_⟩; replace BK213 := As (blk_below (kb BK213.out) hb); replace BK214 := As (blk_below (kb BK214.out) hb); replace HB := As (below_step (kB2 HB.out GE213.out GE214.out) hb); (try clear hb); have hcz44_0 := cells_3 BK214.out; have hfz44_0 := fun j_ => blk_frozen BK214.out j_) | (go_at_call 119; (with_reducible refine (checksum_valid.calls d0 d1 d2 true _ A14.out).mono ?_); rintro e w45 ⟨rfl, hb⟩; replace BK213 := As (blk_below (kb BK213.out) hb); replace BK214 := As (blk_below (kb BK214.out) hb); replace HB := As (below_step (kB2 HB.out GE213.out GE214.out) hb); (try clear hb); have hcz46_0 := cells_3 BK213.out; have hfz46_0 := fun j_ => blk_frozen BK213.out j_; have hcz47_0 := cells_3 BK214.out; have hfz47_0 := fun j_ => blk_frozen BK214.out j_))
      go_meet
      case rel => exact ⟨_, (true), kS, H', ⟨by have := HJ4.out; first | omega | exact Nat.le_refl _⟩, ⟨kb BK213.out⟩, ⟨kb BK214.out⟩, ⟨kB2 HB.out GE213.out GE214.out⟩⟩
     rw [if_neg c40] at H
     have c40b0 : decide (a3 < 0) = false := decide_eq_false c40
     clear c40
     have H' := As H
     clear H
     have hnb48 := NB213_214.out
     have hnc48 := NB214_213.out
     have hcz49_0 := cells_3 BK213.out
     have hfz49_0 := fun j_ => blk_frozen BK213.out j_
     go_wp2_with (first | ((with_reducible refine gate_callee (f := 119) rfl ?_); refine goesL_ (some 13) rfl rfl Tryd.func119 (by kernel_rfl) rfl #[.agg #[.bool b0, .int .u64 b1, .int .u64 b2]] rfl kA ?_; (with_reducible refine (checksum_valid.calls b0 b1 b2 true _ A12.out).mono ?_); rintro e w50 ⟨rfl, hb⟩; refine ⟨_, rfl, ?_⟩; replace BK213 := As (blk_below (kb BK213.out) hb); replace BK214 := As (blk_below (kb BK214.out) hb); replace HB := As (below_step (kB2 HB.out GE213.out GE214.out) hb); (try clear hb); have hcz51_0 := cells_3 BK214.out; have hfz51_0 := fun j_ => blk_frozen BK214.out j_) | (go_at_call 119; (with_reducible refine (checksum_valid.calls d0 d1 d2 true _ A14.out).mono ?_); rintro e w52 ⟨rfl, hb⟩; replace BK213 := As (blk_below (kb BK213.out) hb); replace BK214 := As (blk_below (kb BK214.out) hb); replace HB := As (below_step (kB2 HB.out GE213.out GE214.out) hb); (try clear hb); have hcz53_0 := cells_3 BK213.out; have hfz53_0 := fun j_ => blk_frozen BK213.out j_; have hcz54_0 := cells_3 BK214.out; have hfz54_0 := fun j_ => blk_frozen BK214.out j_))
     go_meet
     case rel => exact ⟨_, (decide (a3 > x9_4)), kS, H', ⟨by have := HJ4.out; first | omega | exact Nat.le_refl _⟩, ⟨kb BK213.out⟩, ⟨kb BK214.out⟩, ⟨kB2 HB.out GE213.out GE214.out⟩⟩
    replace c15 := Bool.eq_false_iff.mpr c15
    subst c15
    have H1 : (checksum_Pseudo.j1 kj4 a2 a3 true b0 b1 b2 d0 d1 d2) = some r := by rw [if_neg (show ¬ (false = true) by decide)] at H; exact H
    clear H
    have H := H1
    clear H1
    have H' := As H
    clear H
    have hnb55 := NB213_214.out
    have hnc55 := NB214_213.out
    have hcz56_0 := cells_3 BK213.out
    have hfz56_0 := fun j_ => blk_frozen BK213.out j_
    go_wp2_with (first | ((with_reducible refine gate_callee (f := 119) rfl ?_); refine goesL_ (some 13) rfl rfl Tryd.func119 (by kernel_rfl) rfl #[.agg #[.bool b0, .int .u64 b1, .int .u64 b2]] rfl kA ?_; (with_reducible refine (checksum_valid.calls b0 b1 b2 true _ A12.out).mono ?_); rintro e w57 ⟨rfl, hb⟩; refine ⟨_, rfl, ?_⟩; replace BK213 := As (blk_below (kb BK213.out) hb); replace BK214 := As (blk_below (kb BK214.out) hb); replace HB := As (below_step (kB2 HB.out GE213.out GE214.out) hb); (try clear hb); have hcz58_0 := cells_3 BK214.out; have hfz58_0 := fun j_ => blk_frozen BK214.out j_) | (go_at_call 119; (with_reducible refine (checksum_valid.calls d0 d1 d2 false _ A14.out).mono ?_); rintro e w59 ⟨rfl, hb⟩; replace BK213 := As (blk_below (kb BK213.out) hb); replace BK214 := As (blk_below (kb BK214.out) hb); replace HB := As (below_step (kB2 HB.out GE213.out GE214.out) hb); (try clear hb)))
    go_meet
    case rel => exact ⟨_, (true), kS, H', ⟨by have := HJ4.out; first | omega | exact Nat.le_refl _⟩, ⟨kb BK213.out⟩, ⟨kb BK214.out⟩, ⟨kB2 HB.out GE213.out GE214.out⟩⟩
   replace c13 := Bool.eq_false_iff.mpr c13
   subst c13
   have H1 : (checksum_Pseudo.j1 kj4 a2 a3 true b0 b1 b2 d0 d1 d2) = some r := by rw [if_neg (show ¬ (false = true) by decide)] at H; exact H
   clear H
   have H := H1
   clear H1
   have H' := As H
   clear H
   have hnb60 := NB213_214.out
   have hnc60 := NB214_213.out
   have hcz61_0 := cells_3 BK213.out
   have hfz61_0 := fun j_ => blk_frozen BK213.out j_
   go_wp2_with (first | ((with_reducible refine gate_callee (f := 119) rfl ?_); refine goesL_ (some 13) rfl rfl Tryd.func119 (by kernel_rfl) rfl #[.agg #[.bool b0, .int .u64 b1, .int .u64 b2]] rfl kA ?_; (with_reducible refine (checksum_valid.calls b0 b1 b2 false _ A12.out).mono ?_); rintro e w62 ⟨rfl, hb⟩; refine ⟨_, rfl, ?_⟩; replace BK213 := As (blk_below (kb BK213.out) hb); replace BK214 := As (blk_below (kb BK214.out) hb); replace HB := As (below_step (kB2 HB.out GE213.out GE214.out) hb); (try clear hb)))
   go_meet
   case rel => exact ⟨_, (true), kS, H', ⟨by have := HJ4.out; first | omega | exact Nat.le_refl _⟩, ⟨kb BK213.out⟩, ⟨kb BK214.out⟩, ⟨kB2 HB.out GE213.out GE214.out⟩⟩
  clear HC11
  obtain ⟨kq, x43_10, rfl, HA, HJ10, BK213, BK214, HB⟩ := hcut
  cases kq with
  | zero => exact absurd HA.out (by simp [checksum_Pseudo.j1])
  | succ kj10 =>
   have H := HA.out
   clear HA
   simp only [checksum_Pseudo.j1] at H
   by_cases c63 : x43_10 = true
   ·subst c63
    have H1 : (some (⟨#[]⟩ : ByteArray)) = some r := by rw [if_pos rfl] at H; exact H
    clear H
    have H := H1
    clear H1
    obtain rfl := Option.some.inj H
    go_wp2
    go_ret
    exact ⟨kE, by exact kB2 HB.out GE213.out GE214.out⟩
   replace c63 := Bool.eq_false_iff.mpr c63
   subst c63
   have H1 : (if b0 = true then ((checksum_number.f b1 8).bind fun t217 => ((checksum_number.f b2 8).bind fun t218 => (if t217.size + t218.size ≤ 9223372036854775807 then ((checksum_number.f d1 8).bind fun t219 => (if (t217 ++ t218).size + t219.size ≤ 9223372036854775807 then ((checksum_number.f d2 8).bind fun t220 => (if ((t217 ++ t218) ++ t219).size + t220.size ≤ 9223372036854775807 then ((checksum_number.f (IntKind.u64.wrap (a3)) 4).bind fun t221 => (if (((t217 ++ t218) ++ t219) ++ t220).size + t221.size ≤ 9223372036854775807 then ((checksum_number.f (IntKind.u64.wrap (a2)) 4).bind fun t222 => (if ((((t217 ++ t218) ++ t219) ++ t220) ++ t221).size + t222.size ≤ 9223372036854775807 then (some (((((t217 ++ t218) ++ t219) ++ t220) ++ t221) ++ t222)) else (none))) else (none))) else (none))) else (none))) else (none)))) else ((checksum_number.f b2 4).bind fun t223 => ((checksum_number.f d2 4).bind fun t224 => (if t223.size + t224.size ≤ 9223372036854775807 then ((checksum_number.f (IntKind.u64.wrap (a2)) 2).bind fun t225 => (if (t223 ++ t224).size + t225.size ≤ 9223372036854775807 then ((checksum_number.f (IntKind.u64.wrap (a3)) 2).bind fun t226 => (if ((t223 ++ t224) ++ t225).size + t226.size ≤ 9223372036854775807 then (some (((t223 ++ t224) ++ t225) ++ t226)) else (none))) else (none))) else (none))))) = some r := by rw [if_neg (show ¬ (false = true) by decide)] at H; exact H
   clear H
   have H := H1
   clear H1
   by_cases c64 : b0 = true
   ·subst c64
    have H1 : ((checksum_number.f b1 8).bind fun t217 => ((checksum_number.f b2 8).bind fun t218 => (if t217.size + t218.size ≤ 9223372036854775807 then ((checksum_number.f d1 8).bind fun t219 => (if (t217 ++ t218).size + t219.size ≤ 9223372036854775807 then ((checksum_number.f d2 8).bind fun t220 => (if ((t217 ++ t218) ++ t219).size + t220.size ≤ 9223372036854775807 then ((checksum_number.f (IntKind.u64.wrap (a3)) 4).bind fun t221 => (if (((t217 ++ t218) ++ t219) ++ t220).size + t221.size ≤ 9223372036854775807 then ((checksum_number.f (IntKind.u64.wrap (a2)) 4).bind fun t222 => (if ((((t217 ++ t218) ++ t219) ++ t220) ++ t221).size + t222.size ≤ 9223372036854775807 then (some (((((t217 ++ t218) ++ t219) ++ t220) ++ t221) ++ t222)) else (none))) else (none))) else (none))) else (none))) else (none)))) = some r := by rw [if_pos rfl] at H; exact H
    clear H
    have H := H1
    clear H1
    replace H := Option.bind_eq_some_iff.mp H
    obtain ⟨t217, A650, H⟩ := H
    replace H : ((checksum_number.f b2 8).bind fun t218 => (if t217.size + t218.size ≤ 9223372036854775807 then ((checksum_number.f d1 8).bind fun t219 => (if (t217 ++ t218).size + t219.size ≤ 9223372036854775807 then ((checksum_number.f d2 8).bind fun t220 => (if ((t217 ++ t218) ++ t219).size + t220.size ≤ 9223372036854775807 then ((checksum_number.f (IntKind.u64.wrap (a3)) 4).bind fun t221 => (if (((t217 ++ t218) ++ t219) ++ t220).size + t221.size ≤ 9223372036854775807 then ((checksum_number.f (IntKind.u64.wrap (a2)) 4).bind fun t222 => (if ((((t217 ++ t218) ++ t219) ++ t220) ++ t221).size + t222.size ≤ 9223372036854775807 then (some (((((t217 ++ t218) ++ t219) ++ t220) ++ t221) ++ t222)) else (none))) else (none))) else (none))) else (none))) else (none))) = some r := H
    have A65 := As A650
    clear A650
    replace H := Option.bind_eq_some_iff.mp H
    obtain ⟨t218, A660, H⟩ := H
    replace H : (if t217.size + t218.size ≤ 9223372036854775807 then ((checksum_number.f d1 8).bind fun t219 => (if (t217 ++ t218).size + t219.size ≤ 9223372036854775807 then ((checksum_number.f d2 8).bind fun t220 => (if ((t217 ++ t218) ++ t219).size + t220.size ≤ 9223372036854775807 then ((checksum_number.f (IntKind.u64.wrap (a3)) 4).bind fun t221 => (if (((t217 ++ t218) ++ t219) ++ t220).size + t221.size ≤ 9223372036854775807 then ((checksum_number.f (IntKind.u64.wrap (a2)) 4).bind fun t222 => (if ((((t217 ++ t218) ++ t219) ++ t220) ++ t221).size + t222.size ≤ 9223372036854775807 then (some (((((t217 ++ t218) ++ t219) ++ t220) ++ t221) ++ t222)) else (none))) else (none))) else (none))) else (none))) else (none)) = some r := H
    have A66 := As A660
    clear A660
    by_cases c67 : t217.size + t218.size ≤ 9223372036854775807
    ·rw [if_pos c67] at H
     have c67b0 := eq_true c67
     have c67b1 : decide (t217.size + t218.size ≤ 9223372036854775807) = true := decide_eq_true c67
     try have c67b2 : (9223372036854775807 < t217.size + t218.size) = False := eq_false (Nat.not_lt.2 c67)
     replace H := Option.bind_eq_some_iff.mp H
     obtain ⟨t219, A680, H⟩ := H
     replace H : (if (t217 ++ t218).size + t219.size ≤ 9223372036854775807 then ((checksum_number.f d2 8).bind fun t220 => (if ((t217 ++ t218) ++ t219).size + t220.size ≤ 9223372036854775807 then ((checksum_number.f (IntKind.u64.wrap (a3)) 4).bind fun t221 => (if (((t217 ++ t218) ++ t219) ++ t220).size + t221.size ≤ 9223372036854775807 then ((checksum_number.f (IntKind.u64.wrap (a2)) 4).bind fun t222 => (if ((((t217 ++ t218) ++ t219) ++ t220) ++ t221).size + t222.size ≤ 9223372036854775807 then (some (((((t217 ++ t218) ++ t219) ++ t220) ++ t221) ++ t222)) else (none))) else (none))) else (none))) else (none)) = some r := H
     have A68 := As A680
     clear A680
     by_cases c69 : (t217 ++ t218).size + t219.size ≤ 9223372036854775807
     ·rw [if_pos c69] at H
      have c69b0 := eq_true c69
      have c69b1 : decide ((t217 ++ t218).size + t219.size ≤ 9223372036854775807) = true := decide_eq_true c69
      (try (have c69s0 : (9223372036854775807 < t217.size + t218.size + t219.size) = False := by have h_ := c69; simp only [ByteArray.size_append, ByteArray.size_extract] at h_; exact eq_false (by first | omega | (omega))))
      (try (have c69s1 : (9223372036854775807 < (t217.size + t218.size) + t219.size) = False := by have h_ := c69; simp only [ByteArray.size_append, ByteArray.size_extract] at h_; exact eq_false (by first | omega | (omega))))
      (try (have c69s2 : ((t217.size + t218.size) + t219.size ≤ 9223372036854775807) = True := by have h_ := c69; simp only [ByteArray.size_append, Int.natCast_add, Int.toNat_natCast] at h_; first | exact eq_true h_ | exact eq_true (by omega)))
      (try (have c69s3 : decide ((t217.size + t218.size) + t219.size ≤ 9223372036854775807) = true := by have h_ := c69; first | (simp only [ByteArray.size_append, Int.toNat_natCast] at h_; first | exact beq_iff_eq.mpr h_ | exact beq_eq_false_iff_ne.mpr h_ | exact bne_iff_ne.mpr h_ | exact bne_eq_false_iff_eq.mpr h_ | (rw [beq_iff_eq.mpr h_]; rfl) | (rw [beq_eq_false_iff_ne.mpr h_]; rfl)) | (simp only [ByteArray.size_append, Int.natCast_add, Int.toNat_natCast] at h_ ⊢; first | exact h_ | simpa using h_ | simp [h_] | omega) | (simp only [ByteArray.size_append] at h_; simp at h_ ⊢; omega) | (simp only [ByteArray.size_append, Int.natCast_add, Int.toNat_natCast] at h_; simpa using h_)))
      try have c69b2 : (9223372036854775807 < (t217 ++ t218).size + t219.size) = False := eq_false (Nat.not_lt.2 c69)
      replace H := Option.bind_eq_some_iff.mp H
      obtain ⟨t220, A700, H⟩ := H
      replace H : (if ((t217 ++ t218) ++ t219).size + t220.size ≤ 9223372036854775807 then ((checksum_number.f (IntKind.u64.wrap (a3)) 4).bind fun t221 => (if (((t217 ++ t218) ++ t219) ++ t220).size + t221.size ≤ 9223372036854775807 then ((checksum_number.f (IntKind.u64.wrap (a2)) 4).bind fun t222 => (if ((((t217 ++ t218) ++ t219) ++ t220) ++ t221).size + t222.size ≤ 9223372036854775807 then (some (((((t217 ++ t218) ++ t219) ++ t220) ++ t221) ++ t222)) else (none))) else (none))) else (none)) = some r := H
      have A70 := As A700
      clear A700
      by_cases c71 : ((t217 ++ t218) ++ t219).size + t220.size ≤ 9223372036854775807
      ·rw [if_pos c71] at H
       have c71b0 := eq_true c71
       have c71b1 : decide (((t217 ++ t218) ++ t219).size + t220.size ≤ 9223372036854775807) = true := decide_eq_true c71
       (try (have c71s0 : (9223372036854775807 < t217.size + t218.size + t219.size + t220.size) = False := by have h_ := c71; simp only [ByteArray.size_append, ByteArray.size_extract] at h_; exact eq_false (by first | omega | (omega))))
       (try (have c71s1 : (9223372036854775807 < (t217.size + t218.size + t219.size) + t220.size) = False := by have h_ := c71; simp only [ByteArray.size_append, ByteArray.size_extract] at h_; exact eq_false (by first | omega | (omega))))
       (try (have c71s2 : ((t217.size + t218.size + t219.size) + t220.size ≤ 9223372036854775807) = True := by have h_ := c71; simp only [ByteArray.size_append, Int.natCast_add, Int.toNat_natCast] at h_; first | exact eq_true h_ | exact eq_true (by omega)))
       (try (have c71s3 : decide ((t217.size + t218.size + t219.size) + t220.size ≤ 9223372036854775807) = true := by have h_ := c71; first | (simp only [ByteArray.size_append, Int.toNat_natCast] at h_; first | exact beq_iff_eq.mpr h_ | exact beq_eq_false_iff_ne.mpr h_ | exact bne_iff_ne.mpr h_ | exact bne_eq_false_iff_eq.mpr h_ | (rw [beq_iff_eq.mpr h_]; rfl) | (rw [beq_eq_false_iff_ne.mpr h_]; rfl)) | (simp only [ByteArray.size_append, Int.natCast_add, Int.toNat_natCast] at h_ ⊢; first | exact h_ | simpa using h_ | simp [h_] | omega) | (simp only [ByteArray.size_append] at h_; simp at h_ ⊢; omega) | (simp only [ByteArray.size_append, Int.natCast_add, Int.toNat_natCast] at h_; simpa using h_)))
       try have c71b2 : (9223372036854775807 < ((t217 ++ t218) ++ t219).size + t220.size) = False := eq_false (Nat.not_lt.2 c71)
       replace H := Option.bind_eq_some_iff.mp H
       obtain ⟨t221, A720, H⟩ := H
       replace H : (if (((t217 ++ t218) ++ t219) ++ t220).size + t221.size ≤ 9223372036854775807 then ((checksum_number.f (IntKind.u64.wrap (a2)) 4).bind fun t222 => (if ((((t217 ++ t218) ++ t219) ++ t220) ++ t221).size + t222.size ≤ 9223372036854775807 then (some (((((t217 ++ t218) ++ t219) ++ t220) ++ t221) ++ t222)) else (none))) else (none)) = some r := H
       have A72 := As A720
       clear A720
       by_cases c73 : (((t217 ++ t218) ++ t219) ++ t220).size + t221.size ≤ 9223372036854775807
       ·rw [if_pos c73] at H
        have c73b0 := eq_true c73
        have c73b1 : decide ((((t217 ++ t218) ++ t219) ++ t220).size + t221.size ≤ 9223372036854775807) = true := decide_eq_true c73
        (try (have c73s0 : (9223372036854775807 < t217.size + t218.size + t219.size + t220.size + t221.size) = False := by have h_ := c73; simp only [ByteArray.size_append, ByteArray.size_extract] at h_; exact eq_false (by first | omega | (omega))))
        (try (have c73s1 : (9223372036854775807 < (t217.size + t218.size + t219.size + t220.size) + t221.size) = False := by have h_ := c73; simp only [ByteArray.size_append, ByteArray.size_extract] at h_; exact eq_false (by first | omega | (omega))))
        (try (have c73s2 : ((t217.size + t218.size + t219.size + t220.size) + t221.size ≤ 9223372036854775807) = True := by have h_ := c73; simp only [ByteArray.size_append, Int.natCast_add, Int.toNat_natCast] at h_; first | exact eq_true h_ | exact eq_true (by omega)))
        (try (have c73s3 : decide ((t217.size + t218.size + t219.size + t220.size) + t221.size ≤ 9223372036854775807) = true := by have h_ := c73; first | (simp only [ByteArray.size_append, Int.toNat_natCast] at h_; first | exact beq_iff_eq.mpr h_ | exact beq_eq_false_iff_ne.mpr h_ | exact bne_iff_ne.mpr h_ | exact bne_eq_false_iff_eq.mpr h_ | (rw [beq_iff_eq.mpr h_]; rfl) | (rw [beq_eq_false_iff_ne.mpr h_]; rfl)) | (simp only [ByteArray.size_append, Int.natCast_add, Int.toNat_natCast] at h_ ⊢; first | exact h_ | simpa using h_ | simp [h_] | omega) | (simp only [ByteArray.size_append] at h_; simp at h_ ⊢; omega) | (simp only [ByteArray.size_append, Int.natCast_add, Int.toNat_natCast] at h_; simpa using h_)))
        try have c73b2 : (9223372036854775807 < (((t217 ++ t218) ++ t219) ++ t220).size + t221.size) = False := eq_false (Nat.not_lt.2 c73)
        replace H := Option.bind_eq_some_iff.mp H
        obtain ⟨t222, A740, H⟩ := H
        replace H : (if ((((t217 ++ t218) ++ t219) ++ t220) ++ t221).size + t222.size ≤ 9223372036854775807 then (some (((((t217 ++ t218) ++ t219) ++ t220) ++ t221) ++ t222)) else (none)) = some r := H
        have A74 := As A740
        clear A740
        by_cases c75 : ((((t217 ++ t218) ++ t219) ++ t220) ++ t221).size + t222.size ≤ 9223372036854775807
        ·rw [if_pos c75] at H
         have c75b0 := eq_true c75
         have c75b1 : decide (((((t217 ++ t218) ++ t219) ++ t220) ++ t221).size + t222.size ≤ 9223372036854775807) = true := decide_eq_true c75
         (try (have c75s0 : (9223372036854775807 < (t217.size + t218.size + t219.size + t220.size + t221.size) + t222.size) = False := by have h_ := c75; simp only [ByteArray.size_append, ByteArray.size_extract] at h_; exact eq_false (by first | omega | (omega))))
         (try (have c75s1 : (9223372036854775807 < t217.size + t218.size + t219.size + t220.size + t221.size + t222.size) = False := by have h_ := c75; simp only [ByteArray.size_append, ByteArray.size_extract] at h_; exact eq_false (by first | omega | (omega))))
         (try (have c75s2 : ((t217.size + t218.size + t219.size + t220.size + t221.size) + t222.size ≤ 9223372036854775807) = True := by have h_ := c75; simp only [ByteArray.size_append, Int.natCast_add, Int.toNat_natCast] at h_; first | exact eq_true h_ | exact eq_true (by omega)))
         (try (have c75s3 : decide ((t217.size + t218.size + t219.size + t220.size + t221.size) + t222.size ≤ 9223372036854775807) = true := by have h_ := c75; first | (simp only [ByteArray.size_append, Int.toNat_natCast] at h_; first | exact beq_iff_eq.mpr h_ | exact beq_eq_false_iff_ne.mpr h_ | exact bne_iff_ne.mpr h_ | exact bne_eq_false_iff_eq.mpr h_ | (rw [beq_iff_eq.mpr h_]; rfl) | (rw [beq_eq_false_iff_ne.mpr h_]; rfl)) | (simp only [ByteArray.size_append, Int.natCast_add, Int.toNat_natCast] at h_ ⊢; first | exact h_ | simpa using h_ | simp [h_] | omega) | (simp only [ByteArray.size_append] at h_; simp at h_ ⊢; omega) | (simp only [ByteArray.size_append, Int.natCast_add, Int.toNat_natCast] at h_; simpa using h_)))
         try have c75b2 : (9223372036854775807 < ((((t217 ++ t218) ++ t219) ++ t220) ++ t221).size + t222.size) = False := eq_false (Nat.not_lt.2 c75)
         obtain rfl := Option.some.inj H
         have hnb76 := NB213_214.out
         have hnc76 := NB214_213.out
         have hcz77_0 := cells_3 BK213.out
         have hfz77_0 := fun j_ => blk_frozen BK213.out j_
         try go_wp2
         replace BK213 := As (blk_drew BK213.out)
         replace BK214 := As (blk_drew BK214.out)
         replace HB := As (below_drew1 HB.out)
         refine start_ (n := 24) (S := fun w' => w'.cell? ⟨gb213, 0, none⟩ = some (.bool true) ∧ w'.cell? ⟨gb213, 1, none⟩ = some (.int .u64 b1) ∧ w'.cell? ⟨gb213, 2, none⟩ = some (.int .u64 b2) ∧ w'.cell? ⟨gb214, 0, none⟩ = some (.bool d0) ∧ w'.cell? ⟨gb214, 1, none⟩ = some (.int .u64 d1) ∧ w'.cell? ⟨gb214, 2, none⟩ = some (.int .u64 d2)) (ds := []) #[O, O, O, O, O, O, O, O, O, O, O, O, O, O, O, O, O, O, O, O, O, O, O, O] (by kernel_rfl) rfl rfl ⟨kC BK213.out 0, kC BK213.out 1, kC BK213.out 2, kC BK214.out 0, kC BK214.out 1, kC BK214.out 2⟩ (fun hHeld => ?_); refine with_tabW checksum_Pseudo.tab7 checksum_Pseudo.bits7 (fun HT_ HW_ => ?_)
         generalize wc.drew = w78 at BK213 BK214 HB hHeld ⊢
         refine kP 0 46 #[I, O, O, O, O, O, O, O, O, O, O, O, O, O, O, O, O, O, O, O, O, O, O, O] ?_ (any_of HT_.out (by kernel_rfl))
         refine kP 3 49 #[I, O, O, I, O, O, O, O, O, O, O, O, O, O, O, O, O, O, O, O, O, O, O, O] ?_ (any_of HT_.out (by kernel_rfl))
         refine kP 7 53 #[I, O, O, I, O, O, O, I, O, O, O, O, O, O, O, O, O, O, O, O, O, O, O, O] ?_ (any_of HT_.out (by kernel_rfl))
         refine kP 11 57 #[I, O, O, I, O, O, O, I, O, O, O, I, O, O, O, O, O, O, O, O, O, O, O, O] ?_ (any_of HT_.out (by kernel_rfl))
         refine kP 15 61 #[I, O, O, I, O, O, O, I, O, O, O, I, O, O, O, I, O, O, O, O, O, O, O, O] ?_ (any_of HT_.out (by kernel_rfl))
         refine kP 16 62 #[I, O, O, I, O, O, O, I, O, O, O, I, O, O, O, I, I, O, O, O, O, O, O, O] ?_ (any_of HT_.out (by kernel_rfl))
         refine kP 19 65 #[I, O, O, I, O, O, O, I, O, O, O, I, O, O, O, I, I, O, O, I, O, O, O, O] ?_ (any_of HT_.out (by kernel_rfl))
         refine kP 20 66 #[I, O, O, I, O, O, O, I, O, O, O, I, O, O, O, I, I, O, O, I, I, O, O, O] ?_ (any_of HT_.out (by kernel_rfl))
         refine take_ (i := 1) (N := some 47) (v := ?_) (a' := ?_) #[I, I, O, I, O, O, O, I, O, O, O, I, O, O, O, I, I, O, O, I, I, O, O, O] rfl rfl (take_ofW HT_.out HW_.out (by kernel_rfl)) (fun _ _ _ h => h) (Or.inl ⟨by rfl, ?_⟩) hHeld ?_ ?_
         rotate_left
         ·rintro w' ⟨s0, s1, s2, s3, s4, s5⟩
          go_simp
          with_reducible rfl
         rotate_left
         ·simp only [Act.put, sA, sZ, sS, i64_w, i32_w]
          rfl
         refine take_ (i := 4) (N := some 50) (v := ?_) (a' := ?_) #[I, I, O, I, I, O, O, I, O, O, O, I, O, O, O, I, I, O, O, I, I, O, O, O] rfl rfl (take_ofW HT_.out HW_.out (by kernel_rfl)) (fun _ _ _ h => h) (Or.inl ⟨by rfl, ?_⟩) hHeld ?_ ?_
         rotate_left
         ·rintro w' ⟨s0, s1, s2, s3, s4, s5⟩
          go_simp
          with_reducible rfl
         rotate_left
         ·simp only [Act.put, sA, sZ, sS, i64_w, i32_w]
          rfl
         refine take_ (i := 8) (N := some 54) (v := ?_) (a' := ?_) #[I, I, O, I, I, O, O, I, I, O, O, I, O, O, O, I, I, O, O, I, I, O, O, O] rfl rfl (take_ofW HT_.out HW_.out (by kernel_rfl)) (fun _ _ _ h => h) (Or.inl ⟨by rfl, ?_⟩) hHeld ?_ ?_
         rotate_left
         ·rintro w' ⟨s0, s1, s2, s3, s4, s5⟩
          go_simp
          with_reducible rfl
         rotate_left
         ·simp only [Act.put, sA, sZ, sS, i64_w, i32_w]
          rfl
         refine take_ (i := 12) (N := some 58) (v := ?_) (a' := ?_) #[I, I, O, I, I, O, O, I, I, O, O, I, I, O, O, I, I, O, O, I, I, O, O, O] rfl rfl (take_ofW HT_.out HW_.out (by kernel_rfl)) (fun _ _ _ h => h) (Or.inl ⟨by rfl, ?_⟩) hHeld ?_ ?_
         rotate_left
         ·rintro w' ⟨s0, s1, s2, s3, s4, s5⟩
          go_simp
          with_reducible rfl
         rotate_left
         ·simp only [Act.put, sA, sZ, sS, i64_w, i32_w]
          rfl
         refine one_ (i := 2) (N := some 48) #[I, I, I, I, I, O, O, I, I, O, O, I, I, O, O, I, I, O, O, I, I, O, O, O] rfl rfl (one_of HT_.out (by kernel_rfl)) (by decide) (fun K hK => ?_)
         refine goes_ Tryd.func120 (by kernel_rfl) rfl #[.int .u64 b1, .int .i64 8] (by rfl) rfl rfl kA ?_
         with_reducible refine (checksum_number.calls b1 8 t217 _ ?side1 A65.out).mono ?_
         (case side1 => exact laid_below HLD.out (kB2 HB.out GE213.out GE214.out))
         rintro e w79 ⟨rfl, hb⟩
         refine ⟨_, rfl, ?_⟩
         replace BK213 := As (blk_below (kb BK213.out) hb)
         replace BK214 := As (blk_below (kb BK214.out) hb)
         replace HB := As (below_step (kB2 HB.out GE213.out GE214.out) hb)
         (try clear hb)
         (try clear hb2)
         (try clear hk)
         (try clear hi)
         refine hK.out _ _ ⟨kC BK213.out 0, kC BK213.out 1, kC BK213.out 2, kC BK214.out 0, kC BK214.out 1, kC BK214.out 2⟩ (fun hHeld => ?_)
         clear hK K
         refine norm_ (a' := ?_) ?_ ?_
         rotate_left
         ·show Act.put _ (some 48) _ = _
          simp only [Act.put, sA, sZ, sS, i64_w, i32_w]
          rfl
         refine one_ (i := 5) (N := some 51) #[I, I, I, I, I, I, O, I, I, O, O, I, I, O, O, I, I, O, O, I, I, O, O, O] rfl rfl (one_of HT_.out (by kernel_rfl)) (by decide) (fun K hK => ?_)
         refine goes_ Tryd.func120 (by kernel_rfl) rfl #[.int .u64 b2, .int .i64 8] (by rfl) rfl rfl kA ?_
         with_reducible refine (checksum_number.calls b2 8 t218 _ ?side1 A66.out).mono ?_
         (case side1 => exact laid_below HLD.out (kB2 HB.out GE213.out GE214.out))
         rintro e w80 ⟨rfl, hb⟩
         refine ⟨_, rfl, ?_⟩
         replace BK213 := As (blk_below (kb BK213.out) hb)
         replace BK214 := As (blk_below (kb BK214.out) hb)
         replace HB := As (below_step (kB2 HB.out GE213.out GE214.out) hb)
         (try clear hb)
         (try clear hb2)
         (try clear hk)
         (try clear hi)
         refine hK.out _ _ ⟨kC BK213.out 0, kC BK213.out 1, kC BK213.out 2, kC BK214.out 0, kC BK214.out 1, kC BK214.out 2⟩ (fun hHeld => ?_)
         clear hK K
         refine norm_ (a' := ?_) ?_ ?_
         rotate_left
         ·show Act.put _ (some 51) _ = _
          simp only [Act.put, sA, sZ, sS, i64_w, i32_w]
          rfl
         refine kP 6 52 #[I, I, I, I, I, I, I, I, I, O, O, I, I, O, O, I, I, O, O, I, I, O, O, O] ?_ (any_of HT_.out (by kernel_rfl))
         refine one_ (i := 9) (N := some 55) #[I, I, I, I, I, I, I, I, I, I, O, I, I, O, O, I, I, O, O, I, I, O, O, O] rfl rfl (one_of HT_.out (by kernel_rfl)) (by decide) (fun K hK => ?_)
         refine goes_ Tryd.func120 (by kernel_rfl) rfl #[.int .u64 d1, .int .i64 8] (by rfl) rfl rfl kA ?_
         with_reducible refine (checksum_number.calls d1 8 t219 _ ?side1 A68.out).mono ?_
         (case side1 => exact laid_below HLD.out (kB2 HB.out GE213.out GE214.out))
         rintro e w81 ⟨rfl, hb⟩
         refine ⟨_, rfl, ?_⟩
         replace BK213 := As (blk_below (kb BK213.out) hb)
         replace BK214 := As (blk_below (kb BK214.out) hb)
         replace HB := As (below_step (kB2 HB.out GE213.out GE214.out) hb)
         (try clear hb)
         (try clear hb2)
         (try clear hk)
         (try clear hi)
         refine hK.out _ _ ⟨kC BK213.out 0, kC BK213.out 1, kC BK213.out 2, kC BK214.out 0, kC BK214.out 1, kC BK214.out 2⟩ (fun hHeld => ?_)
         clear hK K
         refine norm_ (a' := ?_) ?_ ?_
         rotate_left
         ·show Act.put _ (some 55) _ = _
          simp only [Act.put, sA, sZ, sS, i64_w, i32_w]
          rfl
         refine kP 10 56 #[I, I, I, I, I, I, I, I, I, I, I, I, I, O, O, I, I, O, O, I, I, O, O, O] ?_ (any_of HT_.out (by kernel_rfl))
         refine one_ (i := 13) (N := some 59) #[I, I, I, I, I, I, I, I, I, I, I, I, I, I, O, I, I, O, O, I, I, O, O, O] rfl rfl (one_of HT_.out (by kernel_rfl)) (by decide) (fun K hK => ?_)
         refine goes_ Tryd.func120 (by kernel_rfl) rfl #[.int .u64 d2, .int .i64 8] (by rfl) rfl rfl kA ?_
         with_reducible refine (checksum_number.calls d2 8 t220 _ ?side1 A70.out).mono ?_
         (case side1 => exact laid_below HLD.out (kB2 HB.out GE213.out GE214.out))
         rintro e w82 ⟨rfl, hb⟩
         refine ⟨_, rfl, ?_⟩
         replace BK213 := As (blk_below (kb BK213.out) hb)
         replace BK214 := As (blk_below (kb BK214.out) hb)
         replace HB := As (below_step (kB2 HB.out GE213.out GE214.out) hb)
         (try clear hb)
         (try clear hb2)
         (try clear hk)
         (try clear hi)
         refine hK.out _ _ ⟨kC BK213.out 0, kC BK213.out 1, kC BK213.out 2, kC BK214.out 0, kC BK214.out 1, kC BK214.out 2⟩ (fun hHeld => ?_)
         clear hK K
         refine norm_ (a' := ?_) ?_ ?_
         rotate_left
         ·show Act.put _ (some 59) _ = _
          simp only [Act.put, sA, sZ, sS, i64_w, i32_w]
          rfl
         refine kP 14 60 #[I, I, I, I, I, I, I, I, I, I, I, I, I, I, I, I, I, O, O, I, I, O, O, O] ?_ (any_of HT_.out (by kernel_rfl))
         refine one_ (i := 17) (N := some 63) #[I, I, I, I, I, I, I, I, I, I, I, I, I, I, I, I, I, I, O, I, I, O, O, O] rfl rfl (one_of HT_.out (by kernel_rfl)) (by decide) (fun K hK => ?_)
         refine goes_ Tryd.func120 (by kernel_rfl) rfl #[.int .u64 (IntKind.u64.wrap (a3)), .int .i64 4] (by rfl) rfl rfl kA ?_
         with_reducible refine (checksum_number.calls (IntKind.u64.wrap (a3)) 4 t221 _ ?side1 A72.out).mono ?_
         (case side1 => exact laid_below HLD.out (kB2 HB.out GE213.out GE214.out))
         rintro e w83 ⟨rfl, hb⟩
         refine ⟨_, rfl, ?_⟩
         replace BK213 := As (blk_below (kb BK213.out) hb)
         replace BK214 := As (blk_below (kb BK214.out) hb)
         replace HB := As (below_step (kB2 HB.out GE213.out GE214.out) hb)
         (try clear hb)
         (try clear hb2)
         (try clear hk)
         (try clear hi)
         refine hK.out _ _ ⟨kC BK213.out 0, kC BK213.out 1, kC BK213.out 2, kC BK214.out 0, kC BK214.out 1, kC BK214.out 2⟩ (fun hHeld => ?_)
         clear hK K
         refine norm_ (a' := ?_) ?_ ?_
         rotate_left
         ·show Act.put _ (some 63) _ = _
          simp only [Act.put, sA, sZ, sS, i64_w, i32_w]
          rfl
         refine kP 18 64 #[I, I, I, I, I, I, I, I, I, I, I, I, I, I, I, I, I, I, I, I, I, O, O, O] ?_ (any_of HT_.out (by kernel_rfl))
         refine one_ (i := 21) (N := some 67) #[I, I, I, I, I, I, I, I, I, I, I, I, I, I, I, I, I, I, I, I, I, I, O, O] rfl rfl (one_of HT_.out (by kernel_rfl)) (by decide) (fun K hK => ?_)
         refine goes_ Tryd.func120 (by kernel_rfl) rfl #[.int .u64 (IntKind.u64.wrap (a2)), .int .i64 4] (by rfl) rfl rfl kA ?_
         with_reducible refine (checksum_number.calls (IntKind.u64.wrap (a2)) 4 t222 _ ?side1 A74.out).mono ?_
         (case side1 => exact laid_below HLD.out (kB2 HB.out GE213.out GE214.out))
         rintro e w84 ⟨rfl, hb⟩
         refine ⟨_, rfl, ?_⟩
         replace BK213 := As (blk_below (kb BK213.out) hb)
         replace BK214 := As (blk_below (kb BK214.out) hb)
         replace HB := As (below_step (kB2 HB.out GE213.out GE214.out) hb)
         (try clear hb)
         (try clear hb2)
         (try clear hk)
         (try clear hi)
         refine hK.out _ _ ⟨kC BK213.out 0, kC BK213.out 1, kC BK213.out 2, kC BK214.out 0, kC BK214.out 1, kC BK214.out 2⟩ (fun hHeld => ?_)
         clear hK K
         refine norm_ (a' := ?_) ?_ ?_
         rotate_left
         ·show Act.put _ (some 67) _ = _
          simp only [Act.put, sA, sZ, sS, i64_w, i32_w]
          rfl
         refine kP 22 68 #[I, I, I, I, I, I, I, I, I, I, I, I, I, I, I, I, I, I, I, I, I, I, I, O] ?_ (any_of HT_.out (by kernel_rfl))
         refine kP 23 8 #[I, I, I, I, I, I, I, I, I, I, I, I, I, I, I, I, I, I, I, I, I, I, I, I] ?_ (any_of HT_.out (by kernel_rfl))
         refine done_ (done_of HT_.out (by kernel_rfl)) ?_
         try go_wp2
         go_ret
         exact ⟨kE, by exact kB2 HB.out GE213.out GE214.out⟩
        rw [if_neg c75] at H
        exact absurd H (by simp)
       rw [if_neg c73] at H
       exact absurd H (by simp)
      rw [if_neg c71] at H
      exact absurd H (by simp)
     rw [if_neg c69] at H
     exact absurd H (by simp)
    rw [if_neg c67] at H
    exact absurd H (by simp)
   replace c64 := Bool.eq_false_iff.mpr c64
   subst c64
   have H1 : ((checksum_number.f b2 4).bind fun t223 => ((checksum_number.f d2 4).bind fun t224 => (if t223.size + t224.size ≤ 9223372036854775807 then ((checksum_number.f (IntKind.u64.wrap (a2)) 2).bind fun t225 => (if (t223 ++ t224).size + t225.size ≤ 9223372036854775807 then ((checksum_number.f (IntKind.u64.wrap (a3)) 2).bind fun t226 => (if ((t223 ++ t224) ++ t225).size + t226.size ≤ 9223372036854775807 then (some (((t223 ++ t224) ++ t225) ++ t226)) else (none))) else (none))) else (none)))) = some r := by rw [if_neg (show ¬ (false = true) by decide)] at H; exact H
   clear H
   have H := H1
   clear H1
   replace H := Option.bind_eq_some_iff.mp H
   obtain ⟨t223, A850, H⟩ := H
   replace H : ((checksum_number.f d2 4).bind fun t224 => (if t223.size + t224.size ≤ 9223372036854775807 then ((checksum_number.f (IntKind.u64.wrap (a2)) 2).bind fun t225 => (if (t223 ++ t224).size + t225.size ≤ 9223372036854775807 then ((checksum_number.f (IntKind.u64.wrap (a3)) 2).bind fun t226 => (if ((t223 ++ t224) ++ t225).size + t226.size ≤ 9223372036854775807 then (some (((t223 ++ t224) ++ t225) ++ t226)) else (none))) else (none))) else (none))) = some r := H
   have A85 := As A850
   clear A850
   replace H := Option.bind_eq_some_iff.mp H
   obtain ⟨t224, A860, H⟩ := H
   replace H : (if t223.size + t224.size ≤ 9223372036854775807 then ((checksum_number.f (IntKind.u64.wrap (a2)) 2).bind fun t225 => (if (t223 ++ t224).size + t225.size ≤ 9223372036854775807 then ((checksum_number.f (IntKind.u64.wrap (a3)) 2).bind fun t226 => (if ((t223 ++ t224) ++ t225).size + t226.size ≤ 9223372036854775807 then (some (((t223 ++ t224) ++ t225) ++ t226)) else (none))) else (none))) else (none)) = some r := H
   have A86 := As A860
   clear A860
   by_cases c87 : t223.size + t224.size ≤ 9223372036854775807
   ·rw [if_pos c87] at H
    have c87b0 := eq_true c87
    have c87b1 : decide (t223.size + t224.size ≤ 9223372036854775807) = true := decide_eq_true c87
    try have c87b2 : (9223372036854775807 < t223.size + t224.size) = False := eq_false (Nat.not_lt.2 c87)
    replace H := Option.bind_eq_some_iff.mp H
    obtain ⟨t225, A880, H⟩ := H
    replace H : (if (t223 ++ t224).size + t225.size ≤ 9223372036854775807 then ((checksum_number.f (IntKind.u64.wrap (a3)) 2).bind fun t226 => (if ((t223 ++ t224) ++ t225).size + t226.size ≤ 9223372036854775807 then (some (((t223 ++ t224) ++ t225) ++ t226)) else (none))) else (none)) = some r := H
    have A88 := As A880
    clear A880
    by_cases c89 : (t223 ++ t224).size + t225.size ≤ 9223372036854775807
    ·rw [if_pos c89] at H
     have c89b0 := eq_true c89
     have c89b1 : decide ((t223 ++ t224).size + t225.size ≤ 9223372036854775807) = true := decide_eq_true c89
     (try (have c89s0 : (9223372036854775807 < t223.size + t224.size + t225.size) = False := by have h_ := c89; simp only [ByteArray.size_append, ByteArray.size_extract] at h_; exact eq_false (by first | omega | (omega))))
     (try (have c89s1 : (9223372036854775807 < (t223.size + t224.size) + t225.size) = False := by have h_ := c89; simp only [ByteArray.size_append, ByteArray.size_extract] at h_; exact eq_false (by first | omega | (omega))))
     (try (have c89s2 : ((t223.size + t224.size) + t225.size ≤ 9223372036854775807) = True := by have h_ := c89; simp only [ByteArray.size_append, Int.natCast_add, Int.toNat_natCast] at h_; first | exact eq_true h_ | exact eq_true (by omega)))
     (try (have c89s3 : decide ((t223.size + t224.size) + t225.size ≤ 9223372036854775807) = true := by have h_ := c89; first | (simp only [ByteArray.size_append, Int.toNat_natCast] at h_; first | exact beq_iff_eq.mpr h_ | exact beq_eq_false_iff_ne.mpr h_ | exact bne_iff_ne.mpr h_ | exact bne_eq_false_iff_eq.mpr h_ | (rw [beq_iff_eq.mpr h_]; rfl) | (rw [beq_eq_false_iff_ne.mpr h_]; rfl)) | (simp only [ByteArray.size_append, Int.natCast_add, Int.toNat_natCast] at h_ ⊢; first | exact h_ | simpa using h_ | simp [h_] | omega) | (simp only [ByteArray.size_append] at h_; simp at h_ ⊢; omega) | (simp only [ByteArray.size_append, Int.natCast_add, Int.toNat_natCast] at h_; simpa using h_)))
     try have c89b2 : (9223372036854775807 < (t223 ++ t224).size + t225.size) = False := eq_false (Nat.not_lt.2 c89)
     replace H := Option.bind_eq_some_iff.mp H
     obtain ⟨t226, A900, H⟩ := H
     replace H : (if ((t223 ++ t224) ++ t225).size + t226.size ≤ 9223372036854775807 then (some (((t223 ++ t224) ++ t225) ++ t226)) else (none)) = some r := H
     have A90 := As A900
     clear A900
     by_cases c91 : ((t223 ++ t224) ++ t225).size + t226.size ≤ 9223372036854775807
     ·rw [if_pos c91] at H
      have c91b0 := eq_true c91
      have c91b1 : decide (((t223 ++ t224) ++ t225).size + t226.size ≤ 9223372036854775807) = true := decide_eq_true c91
      (try (have c91s0 : (9223372036854775807 < (t223.size + t224.size + t225.size) + t226.size) = False := by have h_ := c91; simp only [ByteArray.size_append, ByteArray.size_extract] at h_; exact eq_false (by first | omega | (omega))))
      (try (have c91s1 : (9223372036854775807 < t223.size + t224.size + t225.size + t226.size) = False := by have h_ := c91; simp only [ByteArray.size_append, ByteArray.size_extract] at h_; exact eq_false (by first | omega | (omega))))
      (try (have c91s2 : ((t223.size + t224.size + t225.size) + t226.size ≤ 9223372036854775807) = True := by have h_ := c91; simp only [ByteArray.size_append, Int.natCast_add, Int.toNat_natCast] at h_; first | exact eq_true h_ | exact eq_true (by omega)))
      (try (have c91s3 : decide ((t223.size + t224.size + t225.size) + t226.size ≤ 9223372036854775807) = true := by have h_ := c91; first | (simp only [ByteArray.size_append, Int.toNat_natCast] at h_; first | exact beq_iff_eq.mpr h_ | exact beq_eq_false_iff_ne.mpr h_ | exact bne_iff_ne.mpr h_ | exact bne_eq_false_iff_eq.mpr h_ | (rw [beq_iff_eq.mpr h_]; rfl) | (rw [beq_eq_false_iff_ne.mpr h_]; rfl)) | (simp only [ByteArray.size_append, Int.natCast_add, Int.toNat_natCast] at h_ ⊢; first | exact h_ | simpa using h_ | simp [h_] | omega) | (simp only [ByteArray.size_append] at h_; simp at h_ ⊢; omega) | (simp only [ByteArray.size_append, Int.natCast_add, Int.toNat_natCast] at h_; simpa using h_)))
      try have c91b2 : (9223372036854775807 < ((t223 ++ t224) ++ t225).size + t226.size) = False := eq_false (Nat.not_lt.2 c91)
      obtain rfl := Option.some.inj H
      have hnb92 := NB213_214.out
      have hnc92 := NB214_213.out
      have hcz93_0 := cells_3 BK213.out
      have hfz93_0 := fun j_ => blk_frozen BK213.out j_
      try go_wp2
      replace BK213 := As (blk_drew BK213.out)
      replace BK214 := As (blk_drew BK214.out)
      replace HB := As (below_drew1 HB.out)
      refine start_ (n := 16) (S := fun w' => w'.cell? ⟨gb213, 0, none⟩ = some (.bool false) ∧ w'.cell? ⟨gb213, 1, none⟩ = some (.int .u64 b1) ∧ w'.cell? ⟨gb213, 2, none⟩ = some (.int .u64 b2) ∧ w'.cell? ⟨gb214, 0, none⟩ = some (.bool d0) ∧ w'.cell? ⟨gb214, 1, none⟩ = some (.int .u64 d1) ∧ w'.cell? ⟨gb214, 2, none⟩ = some (.int .u64 d2)) (ds := []) #[O, O, O, O, O, O, O, O, O, O, O, O, O, O, O, O] (by kernel_rfl) rfl rfl ⟨kC BK213.out 0, kC BK213.out 1, kC BK213.out 2, kC BK214.out 0, kC BK214.out 1, kC BK214.out 2⟩ (fun hHeld => ?_); refine with_tabW checksum_Pseudo.tab8 checksum_Pseudo.bits8 (fun HT_ HW_ => ?_)
      generalize wc.drew = w94 at BK213 BK214 HB hHeld ⊢
      refine kP 0 69 #[I, O, O, O, O, O, O, O, O, O, O, O, O, O, O, O] ?_ (any_of HT_.out (by kernel_rfl))
      refine kP 3 72 #[I, O, O, I, O, O, O, O, O, O, O, O, O, O, O, O] ?_ (any_of HT_.out (by kernel_rfl))
      refine kP 7 76 #[I, O, O, I, O, O, O, I, O, O, O, O, O, O, O, O] ?_ (any_of HT_.out (by kernel_rfl))
      refine kP 8 77 #[I, O, O, I, O, O, O, I, I, O, O, O, O, O, O, O] ?_ (any_of HT_.out (by kernel_rfl))
      refine kP 11 80 #[I, O, O, I, O, O, O, I, I, O, O, I, O, O, O, O] ?_ (any_of HT_.out (by kernel_rfl))
      refine kP 12 81 #[I, O, O, I, O, O, O, I, I, O, O, I, I, O, O, O] ?_ (any_of HT_.out (by kernel_rfl))
      refine take_ (i := 1) (N := some 70) (v := ?_) (a' := ?_) #[I, I, O, I, O, O, O, I, I, O, O, I, I, O, O, O] rfl rfl (take_ofW HT_.out HW_.out (by kernel_rfl)) (fun _ _ _ h => h) (Or.inl ⟨by rfl, ?_⟩) hHeld ?_ ?_
      rotate_left
      ·rintro w' ⟨s0, s1, s2, s3, s4, s5⟩
       go_simp
       with_reducible rfl
      rotate_left
      ·simp only [Act.put, sA, sZ, sS, i64_w, i32_w]
       rfl
      refine take_ (i := 4) (N := some 73) (v := ?_) (a' := ?_) #[I, I, O, I, I, O, O, I, I, O, O, I, I, O, O, O] rfl rfl (take_ofW HT_.out HW_.out (by kernel_rfl)) (fun _ _ _ h => h) (Or.inl ⟨by rfl, ?_⟩) hHeld ?_ ?_
      rotate_left
      ·rintro w' ⟨s0, s1, s2, s3, s4, s5⟩
       go_simp
       with_reducible rfl
      rotate_left
      ·simp only [Act.put, sA, sZ, sS, i64_w, i32_w]
       rfl
      refine one_ (i := 2) (N := some 71) #[I, I, I, I, I, O, O, I, I, O, O, I, I, O, O, O] rfl rfl (one_of HT_.out (by kernel_rfl)) (by decide) (fun K hK => ?_)
      refine goes_ Tryd.func120 (by kernel_rfl) rfl #[.int .u64 b2, .int .i64 4] (by rfl) rfl rfl kA ?_
      with_reducible refine (checksum_number.calls b2 4 t223 _ ?side1 A85.out).mono ?_
      (case side1 => exact laid_below HLD.out (kB2 HB.out GE213.out GE214.out))
      rintro e w95 ⟨rfl, hb⟩
      refine ⟨_, rfl, ?_⟩
      replace BK213 := As (blk_below (kb BK213.out) hb)
      replace BK214 := As (blk_below (kb BK214.out) hb)
      replace HB := As (below_step (kB2 HB.out GE213.out GE214.out) hb)
      (try clear hb)
      (try clear hb2)
      (try clear hk)
      (try clear hi)
      refine hK.out _ _ ⟨kC BK213.out 0, kC BK213.out 1, kC BK213.out 2, kC BK214.out 0, kC BK214.out 1, kC BK214.out 2⟩ (fun hHeld => ?_)
      clear hK K
      refine norm_ (a' := ?_) ?_ ?_
      rotate_left
      ·show Act.put _ (some 71) _ = _
       simp only [Act.put, sA, sZ, sS, i64_w, i32_w]
       rfl
      refine one_ (i := 5) (N := some 74) #[I, I, I, I, I, I, O, I, I, O, O, I, I, O, O, O] rfl rfl (one_of HT_.out (by kernel_rfl)) (by decide) (fun K hK => ?_)
      refine goes_ Tryd.func120 (by kernel_rfl) rfl #[.int .u64 d2, .int .i64 4] (by rfl) rfl rfl kA ?_
      with_reducible refine (checksum_number.calls d2 4 t224 _ ?side1 A86.out).mono ?_
      (case side1 => exact laid_below HLD.out (kB2 HB.out GE213.out GE214.out))
      rintro e w96 ⟨rfl, hb⟩
      refine ⟨_, rfl, ?_⟩
      replace BK213 := As (blk_below (kb BK213.out) hb)
      replace BK214 := As (blk_below (kb BK214.out) hb)
      replace HB := As (below_step (kB2 HB.out GE213.out GE214.out) hb)
      (try clear hb)
      (try clear hb2)
      (try clear hk)
      (try clear hi)
      refine hK.out _ _ ⟨kC BK213.out 0, kC BK213.out 1, kC BK213.out 2, kC BK214.out 0, kC BK214.out 1, kC BK214.out 2⟩ (fun hHeld => ?_)
      clear hK K
      refine norm_ (a' := ?_) ?_ ?_
      rotate_left
      ·show Act.put _ (some 74) _ = _
       simp only [Act.put, sA, sZ, sS, i64_w, i32_w]
       rfl
      refine kP 6 75 #[I, I, I, I, I, I, I, I, I, O, O, I, I, O, O, O] ?_ (any_of HT_.out (by kernel_rfl))
      refine one_ (i := 9) (N := some 78) #[I, I, I, I, I, I, I, I, I, I, O, I, I, O, O, O] rfl rfl (one_of HT_.out (by kernel_rfl)) (by decide) (fun K hK => ?_)
      refine goes_ Tryd.func120 (by kernel_rfl) rfl #[.int .u64 (IntKind.u64.wrap (a2)), .int .i64 2] (by rfl) rfl rfl kA ?_
      with_reducible refine (checksum_number.calls (IntKind.u64.wrap (a2)) 2 t225 _ ?side1 A88.out).mono ?_
      (case side1 => exact laid_below HLD.out (kB2 HB.out GE213.out GE214.out))
      rintro e w97 ⟨rfl, hb⟩
      refine ⟨_, rfl, ?_⟩
      replace BK213 := As (blk_below (kb BK213.out) hb)
      replace BK214 := As (blk_below (kb BK214.out) hb)
      replace HB := As (below_step (kB2 HB.out GE213.out GE214.out) hb)
      (try clear hb)
      (try clear hb2)
      (try clear hk)
      (try clear hi)
      refine hK.out _ _ ⟨kC BK213.out 0, kC BK213.out 1, kC BK213.out 2, kC BK214.out 0, kC BK214.out 1, kC BK214.out 2⟩ (fun hHeld => ?_)
      clear hK K
      refine norm_ (a' := ?_) ?_ ?_
      rotate_left
      ·show Act.put _ (some 78) _ = _
       simp only [Act.put, sA, sZ, sS, i64_w, i32_w]
       rfl
      refine kP 10 79 #[I, I, I, I, I, I, I, I, I, I, I, I, I, O, O, O] ?_ (any_of HT_.out (by kernel_rfl))
      refine one_ (i := 13) (N := some 82) #[I, I, I, I, I, I, I, I, I, I, I, I, I, I, O, O] rfl rfl (one_of HT_.out (by kernel_rfl)) (by decide) (fun K hK => ?_)
      refine goes_ Tryd.func120 (by kernel_rfl) rfl #[.int .u64 (IntKind.u64.wrap (a3)), .int .i64 2] (by rfl) rfl rfl kA ?_
      with_reducible refine (checksum_number.calls (IntKind.u64.wrap (a3)) 2 t226 _ ?side1 A90.out).mono ?_
      (case side1 => exact laid_below HLD.out (kB2 HB.out GE213.out GE214.out))
      rintro e w98 ⟨rfl, hb⟩
      refine ⟨_, rfl, ?_⟩
      replace BK213 := As (blk_below (kb BK213.out) hb)
      replace BK214 := As (blk_below (kb BK214.out) hb)
      replace HB := As (below_step (kB2 HB.out GE213.out GE214.out) hb)
      (try clear hb)
      (try clear hb2)
      (try clear hk)
      (try clear hi)
      refine hK.out _ _ ⟨kC BK213.out 0, kC BK213.out 1, kC BK213.out 2, kC BK214.out 0, kC BK214.out 1, kC BK214.out 2⟩ (fun hHeld => ?_)
      clear hK K
      refine norm_ (a' := ?_) ?_ ?_
      rotate_left
      ·show Act.put _ (some 82) _ = _
       simp only [Act.put, sA, sZ, sS, i64_w, i32_w]
       rfl
      refine kP 14 83 #[I, I, I, I, I, I, I, I, I, I, I, I, I, I, I, O] ?_ (any_of HT_.out (by kernel_rfl))
      refine kP 15 8 #[I, I, I, I, I, I, I, I, I, I, I, I, I, I, I, I] ?_ (any_of HT_.out (by kernel_rfl))
      refine done_ (done_of HT_.out (by kernel_rfl)) ?_
      try go_wp2
      go_ret
      exact ⟨kE, by exact kB2 HB.out GE213.out GE214.out⟩
     rw [if_neg c91] at H
     exact absurd H (by simp)
    rw [if_neg c89] at H
    exact absurd H (by simp)
   rw [if_neg c87] at H
   exact absurd H (by simp)

end Go.Proofs.YtocobalkikkhlaaDoor.X
-- short
