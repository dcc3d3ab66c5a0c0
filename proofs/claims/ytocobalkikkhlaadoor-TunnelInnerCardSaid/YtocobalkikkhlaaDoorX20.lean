/- Functions and their walks, printed by xprint.py. -/
import Derived.Test.YtocobalkikkhlaaDoorX0
import Derived.Test.YtocobalkikkhlaaDoorX11
import Derived.Test.YtocobalkikkhlaaDoorX12
import Derived.Test.YtocobalkikkhlaaDoorX18
import Derived.Test.YtocobalkikkhlaaDoorX19
namespace Go.Proofs.YtocobalkikkhlaaDoor.X
open Go.RowKit Go.Proofs.YtocobalkikkhlaaDoorW.PrintWords Go.Proofs.YtocobalkikkhlaaDoorW.PrintLast Go.Proofs.YtocobalkikkhlaaDoorW.PrintMore
attribute [local go_sem] max2_int min2_int max_two min_two max_three min_three max_four min_four   -- for this text's walks alone
set_option linter.unusedVariables false
set_option linter.unusedSimpArgs false

/-! ### intrusionref17_vxlan: function 46 -/
def intrusionref17_vxlan.j0 : Nat → Bool → Bool → Int → Int → Bool → Int → Int → Int → Int → ByteArray → Option (Int × ByteArray × Int)
 | 0, _, _, _, _, _, _, _, _, _, _ => none
 | k + 1, x17, x343000, x343001, x343002, x343003, x343004, x343005, x343006, x343007, x343008 => if x17 = true then (some (0, (⟨#[]⟩ : ByteArray), 0)) else ((intrusionref13_Decode.f k x343000 x343001 x343002 x343003 x343004 x343005 x343008).bind fun bt344 => (if bt344.2.2.2 = 0 then (if (bt344.2.2.1.size : Int) < 8 then (some (0, (⟨#[]⟩ : ByteArray), 1)) else (if 0 ≤ 4 then (if 4 ≤ (bt344.2.2.1.size : Int) then (if (bt344.2.2.1.extract 0 4).toList = ([8, 0, 0, 0] : List UInt8) then (if 7 < (bt344.2.2.1.size : Int) then (if (bt bt344.2.2.1 7) = 0 then (if 8 ≤ (bt344.2.2.1.size : Int) then (some (3, bt344.2.2.1.extract 8 bt344.2.2.1.size, 0)) else (none)) else (some (0, (⟨#[]⟩ : ByteArray), 2))) else (none)) else (some (0, (⟨#[]⟩ : ByteArray), 2))) else (none)) else (none))) else (some (0, (⟨#[]⟩ : ByteArray), bt344.2.2.2))))
def intrusionref17_vxlan.f (k : Nat) (b0 : Bool) (b1 : Int) (b2 : Int) (b3 : Bool) (b4 : Int) (b5 : Int) (b6 : Int) (b7 : Int) (b8 : ByteArray) : Option (Int × ByteArray × Int) := if (b8.size : Int) < 4 then (intrusionref17_vxlan.j0 k true b0 b1 b2 b3 b4 b5 b6 b7 b8) else ((intrusionref17_number.f k b8 2 2).bind fun t343 => (intrusionref17_vxlan.j0 k (t343 != 4789) b0 b1 b2 b3 b4 b5 b6 b7 b8))
theorem intrusionref17_vxlan.mono_l : ∀ k, (∀ y0 y1 y2 y3 y4 y5 y6 y7 y8 y9, LeO (intrusionref17_vxlan.j0 k y0 y1 y2 y3 y4 y5 y6 y7 y8 y9) (intrusionref17_vxlan.j0 (k + 1) y0 y1 y2 y3 y4 y5 y6 y7 y8 y9))
 | 0 => fun _ _ _ _ _ _ _ _ _ _ r h => by simp [intrusionref17_vxlan.j0] at h
 | k + 1 => by
  have ih0 := intrusionref17_vxlan.mono_l k
  intro y0 y1 y2 y3 y4 y5 y6 y7 y8 y9
  unfold intrusionref17_vxlan.j0
  repeat' first | with_reducible first | apply ih0 | apply intrusionref13_Decode.mono | apply intrusionref17_number.mono | apply LeO.refl | apply LeO.none | refine LeO.ite ?_ ?_ | refine LeO.bind ?_ (fun _ => ?_)
theorem intrusionref17_vxlan.mono : ∀ a0 a1 a2 a3 a4 a5 a6 a7 a8 k, LeO (intrusionref17_vxlan.f k a0 a1 a2 a3 a4 a5 a6 a7 a8) (intrusionref17_vxlan.f (k + 1) a0 a1 a2 a3 a4 a5 a6 a7 a8) := by
 intro a0 a1 a2 a3 a4 a5 a6 a7 a8 k
 have ih0 := intrusionref17_vxlan.mono_l k
 unfold intrusionref17_vxlan.f
 repeat' first | with_reducible first | apply ih0 | apply intrusionref13_Decode.mono | apply intrusionref17_number.mono | apply LeO.refl | apply LeO.none | refine LeO.ite ?_ ?_ | refine LeO.bind ?_ (fun _ => ?_)
set_option maxHeartbeats 8000000 in
set_option maxRecDepth 100000 in
theorem intrusionref17_vxlan.calls (k : Nat) (b0 : Bool) (b1 : Int) (b2 : Int) (b3 : Bool) (b4 : Int) (b5 : Int) (b6 : Int) (b7 : Int) (b8 : ByteArray) (r1 : Int) (r2 : ByteArray) (r3 : Int) (w : World) (h : intrusionref17_vxlan.f k b0 b1 b2 b3 b4 b5 b6 b7 b8 = some (r1, r2, r3)) :
  Calls Tryd.prog 46 #[.agg #[.bool b0, .int .u64 b1, .int .u64 b2, .bool b3, .int .u64 b4, .int .u64 b5, .int .i64 b6, .int .i64 b7, .string b8]] w fun e w' => e = .returned (.tuple #[.int .i64 r1, .string r2, .int .i64 r3]) ∧ Below w.heap.size w w' := by
 have hu30 := Tryd.underlying30
 have hu24 := Tryd.underlying24
 have hu85 := Tryd.underlying85
 have HB := As (Below.refl w.heap.size w)
 have H : (if (b8.size : Int) < 4 then (intrusionref17_vxlan.j0 k true b0 b1 b2 b3 b4 b5 b6 b7 b8) else ((intrusionref17_number.f k b8 2 2).bind fun t343 => (intrusionref17_vxlan.j0 k (t343 != 4789) b0 b1 b2 b3 b4 b5 b6 b7 b8))) = some (r1, r2, r3) := h
 clear h
 have HC2 := As H
 clear H
 go_enter Tryd.func46, Tryd.ntmps46
 go_upto_region 1 with (first | ((with_reducible refine gate_dst (N := 1) rfl ?_); refine box_event rfl (N := 1) rfl (cs := #[.bool b0, .int .u64 b1, .int .u64 b2, .bool b3, .int .u64 b4, .int .u64 b5, .int .i64 b6, .int .i64 b7, .string b8]) (t := 30) kG ?_; intro gb342 hg w3 hbox hb; have BK342 := As (hbox); have GW342 := As ((by rw [hg]; exact (below_size (kB HB.out)) : w.heap.size ≤ gb342)); have GE342 := As ((by rw [hg]; exact (below_size (kB HB.out)) : w.heap.size ≤ gb342)); replace HB := As (below_step (kB HB.out) hb); clear hb hbox hg))
 repeat (go_quiet (first | ((with_reducible refine gate_dst (N := 1) rfl ?_); refine box_event rfl (N := 1) rfl (cs := #[.bool b0, .int .u64 b1, .int .u64 b2, .bool b3, .int .u64 b4, .int .u64 b5, .int .i64 b6, .int .i64 b7, .string b8]) (t := 30) kG ?_; intro gb342 hg w3 hbox hb; have BK342 := As (hbox); have GW342 := As ((by rw [hg]; exact (below_size (kB HB.out)) : w.heap.size ≤ gb342)); have GE342 := As ((by rw [hg]; exact (below_size (kB HB.out)) : w.heap.size ≤ gb342)); replace HB := As (below_step (kB HB.out) hb); clear hb hbox hg)); go_upto_region 1 with (first | ((with_reducible refine gate_dst (N := 1) rfl ?_); refine box_event rfl (N := 1) rfl (cs := #[.bool b0, .int .u64 b1, .int .u64 b2, .bool b3, .int .u64 b4, .int .u64 b5, .int .i64 b6, .int .i64 b7, .string b8]) (t := 30) kG ?_; intro gb342 hg w3 hbox hb; have BK342 := As (hbox); have GW342 := As ((by rw [hg]; exact (below_size (kB HB.out)) : w.heap.size ≤ gb342)); have GE342 := As ((by rw [hg]; exact (below_size (kB HB.out)) : w.heap.size ≤ gb342)); replace HB := As (below_step (kB HB.out) hb); clear hb hbox hg)))
 (try simp only [Act.put, sA, sZ, sS])
 go_cut [17] (fun v17 wc => ∃ (kq : Nat) (x17_1 : Bool), v17 = .bool x17_1 ∧ Aside0 (intrusionref17_vxlan.j0 kq x17_1 b0 b1 b2 b3 b4 b5 b6 b7 b8 = some (r1, r2, r3)) ∧ Aside0 (kq ≤ k) ∧ Aside0 (wc.heap[gb342]? = some (.cells #[.bool b0, .int .u64 b1, .int .u64 b2, .bool b3, .int .u64 b4, .int .u64 b5, .int .i64 b6, .int .i64 b7, .string b8] 30 (0, 0))) ∧ Aside0 (Below w.heap.size w wc))
 case first =>
  have H := HC2.out
  clear HC2
  by_cases c4 : (b8.size : Int) < 4
  ·rw [if_pos c4] at H
   have c4b0 : decide ((b8.size : Int) < 4) = true := decide_eq_true c4
   have c4b1 : decide (b8.size < 4) = true := decide_eq_true (by omega)
   clear c4
   (first | rw [c4b0] | (simp only [i64_w, i32_w]; rw [c4b0]) | skip)
   have H' := As H
   clear H
   have hcz5_0 := cells_9 BK342.out
   have hfz5_0 := fun j_ => blk_frozen BK342.out j_
   go_wp2
   repeat (go_quiet (fail); try go_wp2)
   go_meet
   case rel => exact ⟨_, (true), kS, H', ⟨by first | omega | exact Nat.le_refl _⟩, ⟨kb BK342.out⟩, ⟨kB1 HB.out GE342.out⟩⟩
  rw [if_neg c4] at H
  have c4b0 : decide ((b8.size : Int) < 4) = false := decide_eq_false c4
  have c4b1 : decide (b8.size < 4) = false := decide_eq_false (by omega)
  clear c4
  (first | rw [c4b0] | (simp only [i64_w, i32_w]; rw [c4b0]) | skip)
  replace H := Option.bind_eq_some_iff.mp H
  obtain ⟨t343, A60, H⟩ := H
  replace H : (intrusionref17_vxlan.j0 k (t343 != 4789) b0 b1 b2 b3 b4 b5 b6 b7 b8) = some (r1, r2, r3) := H
  have A6 := As A60
  clear A60
  have H' := As H
  clear H
  have hcz7_0 := cells_9 BK342.out
  have hfz7_0 := fun j_ => blk_frozen BK342.out j_
  go_wp2_with (first | (go_at_call 83; (with_reducible refine (intrusionref17_number.calls k b8 2 2 t343 _ A6.out).mono ?_); rintro e w' ⟨rfl, ⟨nd, rfl⟩⟩; (try first | exact ⟨rfl, _, World.drewN_drewN _ _ _⟩ | exact ⟨rfl, _, Eq.trans (World.drewN_drewN _ _ _) (congrArg (World.drewN _) (Nat.add_assoc _ _ _))⟩)))
  repeat (go_quiet (first | (go_at_call 83; (with_reducible refine (intrusionref17_number.calls k b8 2 2 t343 _ A6.out).mono ?_); rintro e w' ⟨rfl, ⟨nd, rfl⟩⟩; (try first | exact ⟨rfl, _, World.drewN_drewN _ _ _⟩ | exact ⟨rfl, _, Eq.trans (World.drewN_drewN _ _ _) (congrArg (World.drewN _) (Nat.add_assoc _ _ _))⟩))); try go_wp2_with (first | (go_at_call 83; (with_reducible refine (intrusionref17_number.calls k b8 2 2 t343 _ A6.out).mono ?_); rintro e w' ⟨rfl, ⟨nd, rfl⟩⟩; (try first | exact ⟨rfl, _, World.drewN_drewN _ _ _⟩ | exact ⟨rfl, _, Eq.trans (World.drewN_drewN _ _ _) (congrArg (World.drewN _) (Nat.add_assoc _ _ _))⟩))))
  go_meet
  case rel => exact ⟨_, ((t343 != 4789)), kS, H', ⟨by first | omega | exact Nat.le_refl _⟩, ⟨kb BK342.out⟩, ⟨kB1 HB.out GE342.out⟩⟩
 clear HC2
 obtain ⟨kq, x17_1, rfl, HA, HJ1, BK342, HB⟩ := hcut
 cases kq with
 | zero => exact absurd HA.out (by simp [intrusionref17_vxlan.j0])
 | succ kj1 =>
  have H := HA.out
  clear HA
  simp only [intrusionref17_vxlan.j0] at H
  by_cases c8 : x17_1 = true
  ·subst c8
   have H1 : (some (0, (⟨#[]⟩ : ByteArray), 0)) = some (r1, r2, r3) := by rw [if_pos rfl] at H; exact H
   clear H
   have H := H1
   clear H1
   simp only [Option.some.injEq, Prod.mk.injEq] at H
   obtain ⟨rfl, rfl, rfl⟩ := H
   go_wp2
   repeat (go_quiet (fail); try go_wp2)
   go_ret3
   exact ⟨kE, by exact kB1 HB.out GE342.out⟩
  replace c8 := Bool.eq_false_iff.mpr c8
  subst c8
  have H1 : ((intrusionref13_Decode.f kj1 b0 b1 b2 b3 b4 b5 b8).bind fun bt344 => (if bt344.2.2.2 = 0 then (if (bt344.2.2.1.size : Int) < 8 then (some (0, (⟨#[]⟩ : ByteArray), 1)) else (if 0 ≤ 4 then (if 4 ≤ (bt344.2.2.1.size : Int) then (if (bt344.2.2.1.extract 0 4).toList = ([8, 0, 0, 0] : List UInt8) then (if 7 < (bt344.2.2.1.size : Int) then (if (bt bt344.2.2.1 7) = 0 then (if 8 ≤ (bt344.2.2.1.size : Int) then (some (3, bt344.2.2.1.extract 8 bt344.2.2.1.size, 0)) else (none)) else (some (0, (⟨#[]⟩ : ByteArray), 2))) else (none)) else (some (0, (⟨#[]⟩ : ByteArray), 2))) else (none)) else (none))) else (some (0, (⟨#[]⟩ : ByteArray), bt344.2.2.2)))) = some (r1, r2, r3) := by rw [if_neg (show ¬ (false = true) by decide)] at H; exact H
  clear H
  have H := H1
  clear H1
  replace H := Option.bind_eq_some_iff.mp H
  obtain ⟨⟨t344, t345, t346, t347⟩, A90, H⟩ := H
  replace H : (if t347 = 0 then (if (t346.size : Int) < 8 then (some (0, (⟨#[]⟩ : ByteArray), 1)) else (if 0 ≤ 4 then (if 4 ≤ (t346.size : Int) then (if (t346.extract 0 4).toList = ([8, 0, 0, 0] : List UInt8) then (if 7 < (t346.size : Int) then (if (bt t346 7) = 0 then (if 8 ≤ (t346.size : Int) then (some (3, t346.extract 8 t346.size, 0)) else (none)) else (some (0, (⟨#[]⟩ : ByteArray), 2))) else (none)) else (some (0, (⟨#[]⟩ : ByteArray), 2))) else (none)) else (none))) else (some (0, (⟨#[]⟩ : ByteArray), t347))) = some (r1, r2, r3) := H
  have A9 := As A90
  clear A90
  by_cases c10 : t347 = 0
  ·rw [if_pos c10] at H
   have c10b0 : (t347 == 0) = true := beq_iff_eq.mpr c10
   have c10b1 : (t347 != 0) = false := bne_eq_false_iff_eq.mpr c10
   clear c10
   by_cases c11 : (t346.size : Int) < 8
   ·rw [if_pos c11] at H
    have c11b0 : decide ((t346.size : Int) < 8) = true := decide_eq_true c11
    have c11b1 : decide (t346.size < 8) = true := decide_eq_true (by omega)
    clear c11
    simp only [Option.some.injEq, Prod.mk.injEq] at H
    obtain ⟨rfl, rfl, rfl⟩ := H
    have hcz12_0 := cells_9 BK342.out
    have hfz12_0 := fun j_ => blk_frozen BK342.out j_
    go_wp2_with (first | (go_at_call 84; (with_reducible refine (intrusionref13_Decode.calls kj1 b0 b1 b2 b3 b4 b5 b8 t344 t345 t346 t347 _ A9.out).mono ?_); rintro e w13 ⟨rfl, hb⟩; replace BK342 := As (blk_below (kb BK342.out) hb); replace HB := As (below_step (kB1 HB.out GE342.out) hb); (try clear hb)) | ((with_reducible refine gate_dst (N := 5) rfl ?_); refine box_event rfl (N := 5) rfl (cs := #[.int .i64 0, .int .i64 0, .string (⟨#[]⟩ : ByteArray)]) (t := 85) kG ?_; intro gb348 hg w14 hbox hb; have BK348 := As (hbox); have GW348 := As ((by rw [hg]; exact (below_size (kB1 HB.out GE342.out)) : w.heap.size ≤ gb348)); have GE348 := As ((by rw [hg]; exact (below_size (kB1 HB.out GE342.out)) : w.heap.size ≤ gb348)); replace HB := As (below_step (kB1 HB.out GE342.out) hb); have NB342_348 := As ((by rw [hg]; exact Nat.ne_of_lt (blk_lt (kb BK342.out)) : gb342 ≠ gb348)); have NB348_342 := As ((by rw [hg]; exact Nat.ne_of_gt (blk_lt (kb BK342.out)) : gb348 ≠ gb342)); replace BK342 := As (blk_below (kb BK342.out) hb); clear hb hbox hg; have hnb15 := NB348_342.out; have hnc15 := NB342_348.out; have hcz16_0 := cells_3 BK348.out; have hfz16_0 := fun j_ => blk_frozen BK348.out j_))
    repeat (go_quiet (first | (go_at_call 84; (with_reducible refine (intrusionref13_Decode.calls kj1 b0 b1 b2 b3 b4 b5 b8 t344 t345 t346 t347 _ A9.out).mono ?_); rintro e w13 ⟨rfl, hb⟩; replace BK342 := As (blk_below (kb BK342.out) hb); replace HB := As (below_step (kB1 HB.out GE342.out) hb); (try clear hb)) | ((with_reducible refine gate_dst (N := 5) rfl ?_); refine box_event rfl (N := 5) rfl (cs := #[.int .i64 0, .int .i64 0, .string (⟨#[]⟩ : ByteArray)]) (t := 85) kG ?_; intro gb348 hg w14 hbox hb; have BK348 := As (hbox); have GW348 := As ((by rw [hg]; exact (below_size (kB1 HB.out GE342.out)) : w.heap.size ≤ gb348)); have GE348 := As ((by rw [hg]; exact (below_size (kB1 HB.out GE342.out)) : w.heap.size ≤ gb348)); replace HB := As (below_step (kB1 HB.out GE342.out) hb); have NB342_348 := As ((by rw [hg]; exact Nat.ne_of_lt (blk_lt (kb BK342.out)) : gb342 ≠ gb348)); have NB348_342 := As ((by rw [hg]; exact Nat.ne_of_gt (blk_lt (kb BK342.out)) : gb348 ≠ gb342)); replace BK342 := As (blk_below (kb BK342.out) hb); clear hb hbox hg; have hnb15 := NB348_342.out; have hnc15 := NB342_348.out; have hcz16_0 := cells_3 BK348.out; have hfz16_0 := fun j_ => blk_frozen BK348.out j_)); try go_wp2_with (first | (go_at_call 84; (with_reducible refine (intrusionref13_Decode.calls kj1 b0 b1 b2 b3 b4 b5 b8 t344 t345 t346 t347 _ A9.out).mono ?_); rintro e w13 ⟨rfl, hb⟩; replace BK342 := As (blk_below (kb BK342.out) hb); replace HB := As (below_step (kB1 HB.out GE342.out) hb); (try clear hb)) | ((with_reducible refine gate_dst (N := 5) rfl ?_); refine box_event rfl (N := 5) rfl (cs := #[.int .i64 0, .int .i64 0, .string (⟨#[]⟩ : ByteArray)]) (t := 85) kG ?_; intro gb348 hg w14 hbox hb; have BK348 := As (hbox); have GW348 := As ((by rw [hg]; exact (below_size (kB1 HB.out GE342.out)) : w.heap.size ≤ gb348)); have GE348 := As ((by rw [hg]; exact (below_size (kB1 HB.out GE342.out)) : w.heap.size ≤ gb348)); replace HB := As (below_step (kB1 HB.out GE342.out) hb); have NB342_348 := As ((by rw [hg]; exact Nat.ne_of_lt (blk_lt (kb BK342.out)) : gb342 ≠ gb348)); have NB348_342 := As ((by rw [hg]; exact Nat.ne_of_gt (blk_lt (kb BK342.out)) : gb348 ≠ gb342)); replace BK342 := As (blk_below (kb BK342.out) hb); clear hb hbox hg; have hnb15 := NB348_342.out; have hnc15 := NB342_348.out; have hcz16_0 := cells_3 BK348.out; have hfz16_0 := fun j_ => blk_frozen BK348.out j_)))
    go_ret3
    exact ⟨kE, by exact kB2 HB.out GE342.out GE348.out⟩
   rw [if_neg c11] at H
   have c11b0 : decide ((t346.size : Int) < 8) = false := decide_eq_false c11
   have c11b1 : decide (t346.size < 8) = false := decide_eq_false (by omega)
   clear c11
   by_cases c17 : 0 ≤ 4
   ·rw [if_pos c17] at H
    have c17b0 := eq_true c17
    have c17b1 : decide (0 ≤ 4) = true := decide_eq_true c17
    clear c17
    by_cases c18 : 4 ≤ (t346.size : Int)
    ·rw [if_pos c18] at H
     have c18b0 := eq_true c18
     have c18b1 : decide (4 ≤ (t346.size : Int)) = true := decide_eq_true c18
     clear c18
     by_cases c19 : (t346.extract 0 4).toList = ([8, 0, 0, 0] : List UInt8)
     ·rw [if_pos c19] at H
      have c19b0 : ((t346.extract 0 4).toList == ([8, 0, 0, 0] : List UInt8)) = true := beq_iff_eq.mpr c19
      have c19b1 : ((t346.extract 0 4).toList != ([8, 0, 0, 0] : List UInt8)) = false := bne_eq_false_iff_eq.mpr c19
      clear c19
      by_cases c20 : 7 < (t346.size : Int)
      ·rw [if_pos c20] at H
       have c20b0 : decide (7 < (t346.size : Int)) = true := decide_eq_true c20
       have c20b1 : decide (7 < t346.size) = true := decide_eq_true (by omega)
       clear c20
       by_cases c22 : (bt t346 7) = 0
       ·rw [if_pos c22] at H
        have c22b0 : ((bt t346 7) == 0) = true := beq_iff_eq.mpr c22
        have c22b1 : ((bt t346 7) != 0) = false := bne_eq_false_iff_eq.mpr c22
        clear c22
        by_cases c23 : 8 ≤ (t346.size : Int)
        ·rw [if_pos c23] at H
         have c23b0 := eq_true c23
         have c23b1 : decide (8 ≤ (t346.size : Int)) = true := decide_eq_true c23
         clear c23
         simp only [Option.some.injEq, Prod.mk.injEq] at H
         obtain ⟨rfl, rfl, rfl⟩ := H
         have hcz24_0 := cells_9 BK342.out
         have hfz24_0 := fun j_ => blk_frozen BK342.out j_
         go_wp2_with (first | (go_at_call 84; (with_reducible refine (intrusionref13_Decode.calls kj1 b0 b1 b2 b3 b4 b5 b8 t344 t345 t346 t347 _ A9.out).mono ?_); rintro e w25 ⟨rfl, hb⟩; replace BK342 := As (blk_below (kb BK342.out) hb); replace HB := As (below_step (kB1 HB.out GE342.out) hb); (try clear hb)) | ((with_reducible refine gate_dst (N := 5) rfl ?_); refine box_event rfl (N := 5) rfl (cs := #[.int .i64 0, .int .i64 0, .string (⟨#[]⟩ : ByteArray)]) (t := 85) kG ?_; intro gb348 hg w26 hbox hb; have BK348 := As (hbox); have GW348 := As ((by rw [hg]; exact (below_size (kB1 HB.out GE342.out)) : w.heap.size ≤ gb348)); have GE348 := As ((by rw [hg]; exact (below_size (kB1 HB.out GE342.out)) : w.heap.size ≤ gb348)); replace HB := As (below_step (kB1 HB.out GE342.out) hb); have NB342_348 := As ((by rw [hg]; exact Nat.ne_of_lt (blk_lt (kb BK342.out)) : gb342 ≠ gb348)); have NB348_342 := As ((by rw [hg]; exact Nat.ne_of_gt (blk_lt (kb BK342.out)) : gb348 ≠ gb342)); replace BK342 := As (blk_below (kb BK342.out) hb); clear hb hbox hg; have hnb27 := NB348_342.out; have hnc27 := NB342_348.out; have hcz28_0 := cells_3 BK348.out; have hfz28_0 := fun j_ => blk_frozen BK348.out j_; have p21 : 0 ≤ (7 : Int) := (by omega); have q21 : 7 < t346.size := (by have : (7 : Int) < (t346.size : Int) := of_decide_eq_true (by first | (with_reducible assumption) | assumption); omega); have hx21 : ∀ h : 7 < t346.size, ((t346[7]'h).toNat : Int) = bt t346 7 := bt_at t346 7; clear p21; have qi21 : (7 < (t346.size : Int)) = True := eq_true (of_decide_eq_true (by first | (with_reducible assumption) | assumption)); replace q21 := eq_true q21))
         repeat (go_quiet (first | (go_at_call 84; (with_reducible refine (intrusionref13_Decode.calls kj1 b0 b1 b2 b3 b4 b5 b8 t344 t345 t346 t347 _ A9.out).mono ?_); rintro e w25 ⟨rfl, hb⟩; replace BK342 := As (blk_below (kb BK342.out) hb); replace HB := As (below_step (kB1 HB.out GE342.out) hb); (try clear hb)) | ((with_reducible refine gate_dst (N := 5) rfl ?_); refine box_event rfl (N := 5) rfl (cs := #[.int .i64 0, .int .i64 0, .string (⟨#[]⟩ : ByteArray)]) (t := 85) kG ?_; intro gb348 hg w26 hbox hb; have BK348 := As (hbox); have GW348 := As ((by rw [hg]; exact (below_size (kB1 HB.out GE342.out)) : w.heap.size ≤ gb348)); have GE348 := As ((by rw [hg]; exact (below_size (kB1 HB.out GE342.out)) : w.heap.size ≤ gb348)); replace HB := As (below_step (kB1 HB.out GE342.out) hb); have NB342_348 := As ((by rw [hg]; exact Nat.ne_of_lt (blk_lt (kb BK342.out)) : gb342 ≠ gb348)); have NB348_342 := As ((by rw [hg]; exact Nat.ne_of_gt (blk_lt (kb BK342.out)) : gb348 ≠ gb342)); replace BK342 := As (blk_below (kb BK342.out) hb); clear hb hbox hg; have hnb27 := NB348_342.out; have hnc27 := NB342_348.out; have hcz28_0 := cells_3 BK348.out; have hfz28_0 := fun j_ => blk_frozen BK348.out j_; have p21 : 0 ≤ (7 : Int) := (by omega); have q21 : 7 < t346.size := (by have : (7 : Int) < (t346.size : Int) := of_decide_eq_true (by first | (with_reducible assumption) | assumption); omega); have hx21 : ∀ h : 7 < t346.size, ((t346[7]'h).toNat : Int) = bt t346 7 := bt_at t346 7; clear p21; have qi21 : (7 < (t346.size : Int)) = True := eq_true (of_decide_eq_true (by first | (with_reducible assumption) | assumption)); replace q21 := eq_true q21)); try go_wp2_with (first | (go_at_call 84; (with_reducible refine (intrusionref13_Decode.calls kj1 b0 b1 b2 b3 b4 b5 b8 t344 t345 t346 t347 _ A9.out).mono ?_); rintro e w25 ⟨rfl, hb⟩; replace BK342 := As (blk_below (kb BK342.out) hb); replace HB := As (below_step (kB1 HB.out GE342.out) hb); (try clear hb)) | ((with_reducible refine gate_dst (N := 5) rfl ?_); refine box_event rfl (N := 5) rfl (cs := #[.int .i64 0, .int .i64 0, .string (⟨#[]⟩ : ByteArray)]) (t := 85) kG ?_; intro gb348 hg w26 hbox hb; have BK348 := As (hbox); have GW348 := As ((by rw [hg]; exact (below_size (kB1 HB.out GE342.out)) : w.heap.size ≤ gb348)); have GE348 := As ((by rw [hg]; exact (below_size (kB1 HB.out GE342.out)) : w.heap.size ≤ gb348)); replace HB := As (below_step (kB1 HB.out GE342.out) hb); have NB342_348 := As ((by rw [hg]; exact Nat.ne_of_lt (blk_lt (kb BK342.out)) : gb342 ≠ gb348)); have NB348_342 := As ((by rw [hg]; exact Nat.ne_of_gt (blk_lt (kb BK342.out)) : gb348 ≠ gb342)); replace BK342 := As (blk_below (kb BK342.out) hb); clear hb hbox hg; have hnb27 := NB348_342.out; have hnc27 := NB342_348.out; have hcz28_0 := cells_3 BK348.out; have hfz28_0 := fun j_ => blk_frozen BK348.out j_; have p21 : 0 ≤ (7 : Int) := (by omega); have q21 : 7 < t346.size := (by have : (7 : Int) < (t346.size : Int) := of_decide_eq_true (by first | (with_reducible assumption) | assumption); omega); have hx21 : ∀ h : 7 < t346.size, ((t346[7]'h).toNat : Int) = bt t346 7 := bt_at t346 7; clear p21; have qi21 : (7 < (t346.size : Int)) = True := eq_true (of_decide_eq_true (by first | (with_reducible assumption) | assumption)); replace q21 := eq_true q21)))
         go_ret3
         exact ⟨kE, by exact kB2 HB.out GE342.out GE348.out⟩
        rw [if_neg c23] at H
        exact absurd H (by simp)
       rw [if_neg c22] at H
       have c22b0 : ((bt t346 7) == 0) = false := beq_eq_false_iff_ne.mpr c22
       have c22b1 : ((bt t346 7) != 0) = true := bne_iff_ne.mpr c22
       simp only [Option.some.injEq, Prod.mk.injEq] at H
       obtain ⟨rfl, rfl, rfl⟩ := H
       have hcz29_0 := cells_9 BK342.out
       have hfz29_0 := fun j_ => blk_frozen BK342.out j_
       go_wp2_with (first | (go_at_call 84; (with_reducible refine (intrusionref13_Decode.calls kj1 b0 b1 b2 b3 b4 b5 b8 t344 t345 t346 t347 _ A9.out).mono ?_); rintro e w30 ⟨rfl, hb⟩; replace BK342 := As (blk_below (kb BK342.out) hb); replace HB := As (below_step (kB1 HB.out GE342.out) hb); (try clear hb)) | ((with_reducible refine gate_dst (N := 5) rfl ?_); refine box_event rfl (N := 5) rfl (cs := #[.int .i64 0, .int .i64 0, .string (⟨#[]⟩ : ByteArray)]) (t := 85) kG ?_; intro gb348 hg w31 hbox hb; have BK348 := As (hbox); have GW348 := As ((by rw [hg]; exact (below_size (kB1 HB.out GE342.out)) : w.heap.size ≤ gb348)); have GE348 := As ((by rw [hg]; exact (below_size (kB1 HB.out GE342.out)) : w.heap.size ≤ gb348)); replace HB := As (below_step (kB1 HB.out GE342.out) hb); have NB342_348 := As ((by rw [hg]; exact Nat.ne_of_lt (blk_lt (kb BK342.out)) : gb342 ≠ gb348)); have NB348_342 := As ((by rw [hg]; exact Nat.ne_of_gt (blk_lt (kb BK342.out)) : gb348 ≠ gb342)); replace BK342 := As (blk_below (kb BK342.out) hb); clear hb hbox hg; have hnb32 := NB348_342.out; have hnc32 := NB342_348.out; have hcz33_0 := cells_3 BK348.out; have hfz33_0 := fun j_ => blk_frozen BK348.out j_; have p21 : 0 ≤ (7 : Int) := (by omega); have q21 : 7 < t346.size := (by have : (7 : Int) < (t346.size : Int) := of_decide_eq_true (by first | (with_reducible assumption) | assumption); omega); have hx21 : ∀ h : 7 < t346.size, ((t346[7]'h).toNat : Int) = bt t346 7 := bt_at t346 7; clear p21; have qi21 : (7 < (t346.size : Int)) = True := eq_true (of_decide_eq_true (by first | (with_reducible assumption) | assumption)); replace q21 := eq_true q21))
       repeat (go_quiet (first | (go_at_call 84; (with_reducible refine (intrusionref13_Decode.calls kj1 b0 b1 b2 b3 b4 b5 b8 t344 t345 t346 t347 _ A9.out).mono ?_); rintro e w30 ⟨rfl, hb⟩; replace BK342 := As (blk_below (kb BK342.out) hb); replace HB := As (below_step (kB1 HB.out GE342.out) hb); (try clear hb)) | ((with_reducible refine gate_dst (N := 5) rfl ?_); refine box_event rfl (N := 5) rfl (cs := #[.int .i64 0, .int .i64 0, .string (⟨#[]⟩ : ByteArray)]) (t := 85) kG ?_; intro gb348 hg w31 hbox hb; have BK348 := As (hbox); have GW348 := As ((by rw [hg]; exact (below_size (kB1 HB.out GE342.out)) : w.heap.size ≤ gb348)); have GE348 := As ((by rw [hg]; exact (below_size (kB1 HB.out GE342.out)) : w.heap.size ≤ gb348)); replace HB := As (below_step (kB1 HB.out GE342.out) hb); have NB342_348 := As ((by rw [hg]; exact Nat.ne_of_lt (blk_lt (kb BK342.out)) : gb342 ≠ gb348)); have NB348_342 := As ((by rw [hg]; exact Nat.ne_of_gt (blk_lt (kb BK342.out)) : gb348 ≠ gb342)); replace BK342 := As (blk_below (kb BK342.out) hb); clear hb hbox hg; have hnb32 := NB348_342.out; have hnc32 := NB342_348.out; have hcz33_0 := cells_3 BK348.out; have hfz33_0 := fun j_ => blk_frozen BK348.out j_; have p21 : 0 ≤ (7 : Int) := (by omega); have q21 : 7 < t346.size := (by have : (7 : Int) < (t346.size : Int) := of_decide_eq_true (by first | (with_reducible assumption) | assumption); omega); have hx21 : ∀ h : 7 < t346.size, ((t346[7]'h).toNat : Int) = bt t346 7 := bt_at t346 7; clear p21; have qi21 : (7 < (t346.size : Int)) = True := eq_true (of_decide_eq_true (by first | (with_reducible assumption) | assumption)); replace q21 := eq_true q21)); try go_wp2_with (first | (go_at_call 84; (with_reducible refine (intrusionref13_Decode.calls kj1 b0 b1 b2 b3 b4 b5 b8 t344 t345 t346 t347 _ A9.out).mono ?_); rintro e w30 ⟨rfl, hb⟩; replace BK342 := As (blk_below (kb BK342.out) hb); replace HB := As (below_step (kB1 HB.out GE342.out) hb); (try clear hb)) | ((with_reducible refine gate_dst (N := 5) rfl ?_); refine box_event rfl (N := 5) rfl (cs := #[.int .i64 0, .int .i64 0, .string (⟨#[]⟩ : ByteArray)]) (t := 85) kG ?_; intro gb348 hg w31 hbox hb; have BK348 := As (hbox); have GW348 := As ((by rw [hg]; exact (below_size (kB1 HB.out GE342.out)) : w.heap.size ≤ gb348)); have GE348 := As ((by rw [hg]; exact (below_size (kB1 HB.out GE342.out)) : w.heap.size ≤ gb348)); replace HB := As (below_step (kB1 HB.out GE342.out) hb); have NB342_348 := As ((by rw [hg]; exact Nat.ne_of_lt (blk_lt (kb BK342.out)) : gb342 ≠ gb348)); have NB348_342 := As ((by rw [hg]; exact Nat.ne_of_gt (blk_lt (kb BK342.out)) : gb348 ≠ gb342)); replace BK342 := As (blk_below (kb BK342.out) hb); clear hb hbox hg; have hnb32 := NB348_342.out; have hnc32 := NB342_348.out; have hcz33_0 := cells_3 BK348.out; have hfz33_0 := fun j_ => blk_frozen BK348.out j_; have p21 : 0 ≤ (7 : Int) := (by omega); have q21 : 7 < t346.size := (by have : (7 : Int) < (t346.size : Int) := of_decide_eq_true (by first | (with_reducible assumption) | assumption); omega); have hx21 : ∀ h : 7 < t346.size, ((t346[7]'h).toNat : Int) = bt t346 7 := bt_at t346 7; clear p21; have qi21 : (7 < (t346.size : Int)) = True := eq_true (of_decide_eq_true (by first | (with_reducible assumption) | assumption)); replace q21 := eq_true q21)))
       go_ret3
       exact ⟨kE, by exact kB2 HB.out GE342.out GE348.out⟩
      rw [if_neg c20] at H
      exact absurd H (by simp)
     rw [if_neg c19] at H
     have c19b0 : ((t346.extract 0 4).toList == ([8, 0, 0, 0] : List UInt8)) = false := beq_eq_false_iff_ne.mpr c19
     have c19b1 : ((t346.extract 0 4).toList != ([8, 0, 0, 0] : List UInt8)) = true := bne_iff_ne.mpr c19
     simp only [Option.some.injEq, Prod.mk.injEq] at H
     obtain ⟨rfl, rfl, rfl⟩ := H
     have hcz34_0 := cells_9 BK342.out
     have hfz34_0 := fun j_ => blk_frozen BK342.out j_
     go_wp2_with (first | (go_at_call 84; (with_reducible refine (intrusionref13_Decode.calls kj1 b0 b1 b2 b3 b4 b5 b8 t344 t345 t346 t347 _ A9.out).mono ?_); rintro e w35 ⟨rfl, hb⟩; replace BK342 := As (blk_below (kb BK342.out) hb); replace HB := As (below_step (kB1 HB.out GE342.out) hb); (try clear hb)) | ((with_reducible refine gate_dst (N := 5) rfl ?_); refine box_event rfl (N := 5) rfl (cs := #[.int .i64 0, .int .i64 0, .string (⟨#[]⟩ : ByteArray)]) (t := 85) kG ?_; intro gb348 hg w36 hbox hb; have BK348 := As (hbox); have GW348 := As ((by rw [hg]; exact (below_size (kB1 HB.out GE342.out)) : w.heap.size ≤ gb348)); have GE348 := As ((by rw [hg]; exact (below_size (kB1 HB.out GE342.out)) : w.heap.size ≤ gb348)); replace HB := As (below_step (kB1 HB.out GE342.out) hb); have NB342_348 := As ((by rw [hg]; exact Nat.ne_of_lt (blk_lt (kb BK342.out)) : gb342 ≠ gb348)); have NB348_342 := As ((by rw [hg]; exact Nat.ne_of_gt (blk_lt (kb BK342.out)) : gb348 ≠ gb342)); replace BK342 := As (blk_below (kb BK342.out) hb); clear hb hbox hg; have hnb37 := NB348_342.out; have hnc37 := NB342_348.out; have hcz38_0 := cells_3 BK348.out; have hfz38_0 := fun j_ => blk_frozen BK348.out j_))
     repeat (go_quiet (first | (go_at_call 84; (with_reducible refine (intrusionref13_Decode.calls kj1 b0 b1 b2 b3 b4 b5 b8 t344 t345 t346 t347 _ A9.out).mono ?_); rintro e w35 ⟨rfl, hb⟩; replace BK342 := As (blk_below (kb BK342.out) hb); replace HB := As (below_step (kB1 HB.out GE342.out) hb); (try clear hb)) | ((with_reducible refine gate_dst (N := 5) rfl ?_); refine box_event rfl (N := 5) rfl (cs := #[.int .i64 0, .int .i64 0, .string (⟨#[]⟩ : ByteArray)]) (t := 85) kG ?_; intro gb348 hg w36 hbox hb; have BK348 := As (hbox); have GW348 := As ((by rw [hg]; exact (below_size (kB1 HB.out GE342.out)) : w.heap.size ≤ gb348)); have GE348 := As ((by rw [hg]; exact (below_size (kB1 HB.out GE342.out)) : w.heap.size ≤ gb348)); replace HB := As (below_step (kB1 HB.out GE342.out) hb); have NB342_348 := As ((by rw [hg]; exact Nat.ne_of_lt (blk_lt (kb BK342.out)) : gb342 ≠ gb348)); have NB348_342 := As ((by rw [hg]; exact Nat.ne_of_gt (blk_lt (kb BK342.out)) : gb348 ≠ gb342)); replace BK342 := As (blk_below (kb BK342.out) hb); clear hb hbox hg; have hnb37 := NB348_342.out; have hnc37 := NB342_348.out; have hcz38_0 := cells_3 BK348.out; have hfz38_0 := fun j_ => blk_frozen BK348.out j_)); try go_wp2_with (first | (go_at_call 84; (with_reducible refine (intrusionref13_Decode.calls kj1 b0 b1 b2 b3 b4 b5 b8 t344 t345 t346 t347 _ A9.out).mono ?_); rintro e w35 ⟨rfl, hb⟩; replace BK342 := As (blk_below (kb BK342.out) hb); replace HB := As (below_step (kB1 HB.out GE342.out) hb); (try clear hb)) | ((with_reducible refine gate_dst (N := 5) rfl ?_); refine box_event rfl (N := 5) rfl (cs := #[.int .i64 0, .int .i64 0, .string (⟨#[]⟩ : ByteArray)]) (t := 85) kG ?_; intro gb348 hg w36 hbox hb; have BK348 := As (hbox); have GW348 := As ((by rw [hg]; exact (below_size (kB1 HB.out GE342.out)) : w.heap.size ≤ gb348)); have GE348 := As ((by rw [hg]; exact (below_size (kB1 HB.out GE342.out)) : w.heap.size ≤ gb348)); replace HB := As (below_step (kB1 HB.out GE342.out) hb); have NB342_348 := As ((by rw [hg]; exact Nat.ne_of_lt (blk_lt (kb BK342.out)) : gb342 ≠ gb348)); have NB348_342 := As ((by rw [hg]; exact Nat.ne_of_gt (blk_lt (kb BK342.out)) : gb348 ≠ gb342)); replace BK342 := As (blk_below (kb BK342.out) hb); clear hb hbox hg; have hnb37 := NB348_342.out; have hnc37 := NB342_348.out; have hcz38_0 := cells_3 BK348.out; have hfz38_0 := fun j_ => blk_frozen BK348.out j_)))
     go_ret3
     exact ⟨kE, by exact kB2 HB.out GE342.out GE348.out⟩
    rw [if_neg c18] at H
    exact absurd H (by simp)
   rw [if_neg c17] at H
   exact absurd H (by simp)
  rw [if_neg c10] at H
  have c10b0 : (t347 == 0) = false := beq_eq_false_iff_ne.mpr c10
  have c10b1 : (t347 != 0) = true := bne_iff_ne.mpr c10
  simp only [Option.some.injEq, Prod.mk.injEq] at H
  obtain ⟨rfl, rfl, rfl⟩ := H
  have hcz39_0 := cells_9 BK342.out
  have hfz39_0 := fun j_ => blk_frozen BK342.out j_
  go_wp2_with (first | (go_at_call 84; (with_reducible refine (intrusionref13_Decode.calls kj1 b0 b1 b2 b3 b4 b5 b8 t344 t345 t346 t347 _ A9.out).mono ?_); rintro e w40 ⟨rfl, hb⟩; replace BK342 := As (blk_below (kb BK342.out) hb); replace HB := As (below_step (kB1 HB.out GE342.out) hb); (try clear hb)) | ((with_reducible refine gate_dst (N := 5) rfl ?_); refine box_event rfl (N := 5) rfl (cs := #[.int .i64 0, .int .i64 0, .string (⟨#[]⟩ : ByteArray)]) (t := 85) kG ?_; intro gb348 hg w41 hbox hb; have BK348 := As (hbox); have GW348 := As ((by rw [hg]; exact (below_size (kB1 HB.out GE342.out)) : w.heap.size ≤ gb348)); have GE348 := As ((by rw [hg]; exact (below_size (kB1 HB.out GE342.out)) : w.heap.size ≤ gb348)); replace HB := As (below_step (kB1 HB.out GE342.out) hb); have NB342_348 := As ((by rw [hg]; exact Nat.ne_of_lt (blk_lt (kb BK342.out)) : gb342 ≠ gb348)); have NB348_342 := As ((by rw [hg]; exact Nat.ne_of_gt (blk_lt (kb BK342.out)) : gb348 ≠ gb342)); replace BK342 := As (blk_below (kb BK342.out) hb); clear hb hbox hg; have hnb42 := NB348_342.out; have hnc42 := NB342_348.out; have hcz43_0 := cells_3 BK348.out; have hfz43_0 := fun j_ => blk_frozen BK348.out j_))
  repeat (go_quiet (first | (go_at_call 84; (with_reducible refine (intrusionref13_Decode.calls kj1 b0 b1 b2 b3 b4 b5 b8 t344 t345 t346 t347 _ A9.out).mono ?_); rintro e w40 ⟨rfl, hb⟩; replace BK342 := As (blk_below (kb BK342.out) hb); replace HB := As (below_step (kB1 HB.out GE342.out) hb); (try clear hb)) | ((with_reducible refine gate_dst (N := 5) rfl ?_); refine box_event rfl (N := 5) rfl (cs := #[.int .i64 0, .int .i64 0, .string (⟨#[]⟩ : ByteArray)]) (t := 85) kG ?_; intro gb348 hg w41 hbox hb; have BK348 := As (hbox); have GW348 := As ((by rw [hg]; exact (below_size (kB1 HB.out GE342.out)) : w.heap.size ≤ gb348)); have GE348 := As ((by rw [hg]; exact (below_size (kB1 HB.out GE342.out)) : w.heap.size ≤ gb348)); replace HB := As (below_step (kB1 HB.out GE342.out) hb); have NB342_348 := As ((by rw [hg]; exact Nat.ne_of_lt (blk_lt (kb BK342.out)) : gb342 ≠ gb348)); have NB348_342 := As ((by rw [hg]; exact Nat.ne_of_gt (blk_lt (kb BK342.out)) : gb348 ≠ gb342)); replace BK342 := As (blk_below (kb BK342.out) hb); clear hb hbox hg; have hnb42 := NB348_342.out; have hnc42 := NB342_348.out; have hcz43_0 := cells_3 BK348.out; have hfz43_0 := fun j_ => blk_frozen BK348.out j_)); try go_wp2_with (first | (go_at_call 84; (with_reducible refine (intrusionref13_Decode.calls kj1 b0 b1 b2 b3 b4 b5 b8 t344 t345 t346 t347 _ A9.out).mono ?_); rintro e w40 ⟨rfl, hb⟩; replace BK342 := As (blk_below (kb BK342.out) hb); replace HB := As (below_step (kB1 HB.out GE342.out) hb); (try clear hb)) | ((with_reducible refine gate_dst (N := 5) rfl ?_); refine box_event rfl (N := 5) rfl (cs := #[.int .i64 0, .int .i64 0, .string (⟨#[]⟩ : ByteArray)]) (t := 85) kG ?_; intro gb348 hg w41 hbox hb; have BK348 := As (hbox); have GW348 := As ((by rw [hg]; exact (below_size (kB1 HB.out GE342.out)) : w.heap.size ≤ gb348)); have GE348 := As ((by rw [hg]; exact (below_size (kB1 HB.out GE342.out)) : w.heap.size ≤ gb348)); replace HB := As (below_step (kB1 HB.out GE342.out) hb); have NB342_348 := As ((by rw [hg]; exact Nat.ne_of_lt (blk_lt (kb BK342.out)) : gb342 ≠ gb348)); have NB348_342 := As ((by rw [hg]; exact Nat.ne_of_gt (blk_lt (kb BK342.out)) : gb348 ≠ gb342)); replace BK342 := As (blk_below (kb BK342.out) hb); clear hb hbox hg; have hnb42 := NB348_342.out; have hnc42 := NB342_348.out; have hcz43_0 := cells_3 BK348.out; have hfz43_0 := fun j_ => blk_frozen BK348.out j_)))
  go_ret3
  exact ⟨kE, by exact kB2 HB.out GE342.out GE348.out⟩

/-! ### intrusionref17_Inner: function 20 -/
def intrusionref17_Inner.f (k : Nat) (b0 : Bool) (b1 : Int) (b2 : Int) (b3 : Bool) (b4 : Int) (b5 : Int) (b6 : Int) (b7 : Int) (b8 : ByteArray) : Option (Int × ByteArray × Int) := if b6 = 4 then ((intrusionref17_packet.f b8 4 1).bind fun bt350 => (some (bt350.1, bt350.2.1, bt350.2.2))) else (if b6 = 41 then ((intrusionref17_packet.f b8 6 2).bind fun bt353 => (some (bt353.1, bt353.2.1, bt353.2.2))) else (if b6 = 47 then ((intrusionref17_gre.f k b8).bind fun bt356 => (some (bt356.1, bt356.2.1, bt356.2.2))) else (if b6 = 17 then ((intrusionref17_vxlan.f k b0 b1 b2 b3 b4 b5 b6 b7 b8).bind fun bt359 => (some (bt359.1, bt359.2.1, bt359.2.2))) else (some (0, (⟨#[]⟩ : ByteArray), 0)))))
theorem intrusionref17_Inner.mono : ∀ a0 a1 a2 a3 a4 a5 a6 a7 a8 k, LeO (intrusionref17_Inner.f k a0 a1 a2 a3 a4 a5 a6 a7 a8) (intrusionref17_Inner.f (k + 1) a0 a1 a2 a3 a4 a5 a6 a7 a8) := by
 intro a0 a1 a2 a3 a4 a5 a6 a7 a8 k
 unfold intrusionref17_Inner.f
 repeat' first | with_reducible first | apply intrusionref17_gre.mono | apply intrusionref17_vxlan.mono | apply LeO.refl | apply LeO.none | refine LeO.ite ?_ ?_ | refine LeO.bind ?_ (fun _ => ?_)
set_option maxHeartbeats 8000000 in
set_option maxRecDepth 100000 in
theorem intrusionref17_Inner.calls (k : Nat) (b0 : Bool) (b1 : Int) (b2 : Int) (b3 : Bool) (b4 : Int) (b5 : Int) (b6 : Int) (b7 : Int) (b8 : ByteArray) (r1 : Int) (r2 : ByteArray) (r3 : Int) (w : World) (h : intrusionref17_Inner.f k b0 b1 b2 b3 b4 b5 b6 b7 b8 = some (r1, r2, r3)) :
  Calls Tryd.prog 20 #[.agg #[.bool b0, .int .u64 b1, .int .u64 b2, .bool b3, .int .u64 b4, .int .u64 b5, .int .i64 b6, .int .i64 b7, .string b8]] w fun e w' => e = .returned (.tuple #[.int .i64 r1, .string r2, .int .i64 r3]) ∧ Below w.heap.size w w' := by
 have hu30 := Tryd.underlying30
 have HB := As (Below.refl w.heap.size w)
 have H : (if b6 = 4 then ((intrusionref17_packet.f b8 4 1).bind fun bt350 => (some (bt350.1, bt350.2.1, bt350.2.2))) else (if b6 = 41 then ((intrusionref17_packet.f b8 6 2).bind fun bt353 => (some (bt353.1, bt353.2.1, bt353.2.2))) else (if b6 = 47 then ((intrusionref17_gre.f k b8).bind fun bt356 => (some (bt356.1, bt356.2.1, bt356.2.2))) else (if b6 = 17 then ((intrusionref17_vxlan.f k b0 b1 b2 b3 b4 b5 b6 b7 b8).bind fun bt359 => (some (bt359.1, bt359.2.1, bt359.2.2))) else (some (0, (⟨#[]⟩ : ByteArray), 0)))))) = some (r1, r2, r3) := h
 clear h
 by_cases c2 : b6 = 4
 ·rw [if_pos c2] at H
  have c2b0 : (b6 == 4) = true := beq_iff_eq.mpr c2
  have c2b1 : (b6 != 4) = false := bne_eq_false_iff_eq.mpr c2
  clear c2
  replace H := Option.bind_eq_some_iff.mp H
  obtain ⟨⟨t350, t351, t352⟩, A30, H⟩ := H
  replace H : (some (t350, t351, t352)) = some (r1, r2, r3) := H
  have A3 := As A30
  clear A30
  simp only [Option.some.injEq, Prod.mk.injEq] at H
  obtain ⟨rfl, rfl, rfl⟩ := H
  go_enter Tryd.func20, Tryd.ntmps20
  go_wp2_with (first | ((with_reducible refine gate_dst (N := 1) rfl ?_); refine box_event rfl (N := 1) rfl (cs := #[.bool b0, .int .u64 b1, .int .u64 b2, .bool b3, .int .u64 b4, .int .u64 b5, .int .i64 b6, .int .i64 b7, .string b8]) (t := 30) kG ?_; intro gb349 hg w4 hbox hb; have BK349 := As (hbox); have GW349 := As ((by rw [hg]; exact (below_size (kB HB.out)) : w.heap.size ≤ gb349)); have GE349 := As ((by rw [hg]; exact (below_size (kB HB.out)) : w.heap.size ≤ gb349)); replace HB := As (below_step (kB HB.out) hb); clear hb hbox hg; have hcz5_0 := cells_9 BK349.out; have hfz5_0 := fun j_ => blk_frozen BK349.out j_) | ((with_reducible refine gate_callee (f := 44) rfl ?_); refine goesL_ (some 11) rfl rfl Tryd.func44 (by kernel_rfl) rfl #[.string b8, .int .i64 4, .int .i64 1] rfl kA ?_; (with_reducible refine (intrusionref17_packet.calls b8 4 1 t350 t351 t352 _ A3.out).mono ?_); rintro e w' ⟨rfl, ⟨nd, rfl⟩⟩; refine ⟨_, rfl, ?_⟩))
  go_ret3
  exact ⟨kE, by exact kB1 HB.out GE349.out⟩
 rw [if_neg c2] at H
 have c2b0 : (b6 == 4) = false := beq_eq_false_iff_ne.mpr c2
 have c2b1 : (b6 != 4) = true := bne_iff_ne.mpr c2
 by_cases c6 : b6 = 41
 ·rw [if_pos c6] at H
  have c6b0 : (b6 == 41) = true := beq_iff_eq.mpr c6
  have c6b1 : (b6 != 41) = false := bne_eq_false_iff_eq.mpr c6
  clear c6
  replace H := Option.bind_eq_some_iff.mp H
  obtain ⟨⟨t353, t354, t355⟩, A70, H⟩ := H
  replace H : (some (t353, t354, t355)) = some (r1, r2, r3) := H
  have A7 := As A70
  clear A70
  simp only [Option.some.injEq, Prod.mk.injEq] at H
  obtain ⟨rfl, rfl, rfl⟩ := H
  go_enter Tryd.func20, Tryd.ntmps20
  go_wp2_with (first | ((with_reducible refine gate_dst (N := 1) rfl ?_); refine box_event rfl (N := 1) rfl (cs := #[.bool b0, .int .u64 b1, .int .u64 b2, .bool b3, .int .u64 b4, .int .u64 b5, .int .i64 b6, .int .i64 b7, .string b8]) (t := 30) kG ?_; intro gb349 hg w8 hbox hb; have BK349 := As (hbox); have GW349 := As ((by rw [hg]; exact (below_size (kB HB.out)) : w.heap.size ≤ gb349)); have GE349 := As ((by rw [hg]; exact (below_size (kB HB.out)) : w.heap.size ≤ gb349)); replace HB := As (below_step (kB HB.out) hb); clear hb hbox hg; have hcz9_0 := cells_9 BK349.out; have hfz9_0 := fun j_ => blk_frozen BK349.out j_) | ((with_reducible refine gate_callee (f := 44) rfl ?_); refine goesL_ (some 19) rfl rfl Tryd.func44 (by kernel_rfl) rfl #[.string b8, .int .i64 6, .int .i64 2] rfl kA ?_; (with_reducible refine (intrusionref17_packet.calls b8 6 2 t353 t354 t355 _ A7.out).mono ?_); rintro e w' ⟨rfl, ⟨nd, rfl⟩⟩; refine ⟨_, rfl, ?_⟩))
  go_ret3
  exact ⟨kE, by exact kB1 HB.out GE349.out⟩
 rw [if_neg c6] at H
 have c6b0 : (b6 == 41) = false := beq_eq_false_iff_ne.mpr c6
 have c6b1 : (b6 != 41) = true := bne_iff_ne.mpr c6
 by_cases c10 : b6 = 47
 ·rw [if_pos c10] at H
  have c10b0 : (b6 == 47) = true := beq_iff_eq.mpr c10
  have c10b1 : (b6 != 47) = false := bne_eq_false_iff_eq.mpr c10
  clear c10
  replace H := Option.bind_eq_some_iff.mp H
  obtain ⟨⟨t356, t357, t358⟩, A110, H⟩ := H
  replace H : (some (t356, t357, t358)) = some (r1, r2, r3) := H
  have A11 := As A110
  clear A110
  simp only [Option.some.injEq, Prod.mk.injEq] at H
  obtain ⟨rfl, rfl, rfl⟩ := H
  go_enter Tryd.func20, Tryd.ntmps20
  go_wp2_with (first | ((with_reducible refine gate_dst (N := 1) rfl ?_); refine box_event rfl (N := 1) rfl (cs := #[.bool b0, .int .u64 b1, .int .u64 b2, .bool b3, .int .u64 b4, .int .u64 b5, .int .i64 b6, .int .i64 b7, .string b8]) (t := 30) kG ?_; intro gb349 hg w12 hbox hb; have BK349 := As (hbox); have GW349 := As ((by rw [hg]; exact (below_size (kB HB.out)) : w.heap.size ≤ gb349)); have GE349 := As ((by rw [hg]; exact (below_size (kB HB.out)) : w.heap.size ≤ gb349)); replace HB := As (below_step (kB HB.out) hb); clear hb hbox hg; have hcz13_0 := cells_9 BK349.out; have hfz13_0 := fun j_ => blk_frozen BK349.out j_) | ((with_reducible refine gate_callee (f := 45) rfl ?_); refine goesL_ (some 27) rfl rfl Tryd.func45 (by kernel_rfl) rfl #[.string b8] rfl kA ?_; (with_reducible refine (intrusionref17_gre.calls k b8 t356 t357 t358 _ A11.out).mono ?_); rintro e w' ⟨rfl, ⟨nd, rfl⟩⟩; refine ⟨_, rfl, ?_⟩))
  go_ret3
  exact ⟨kE, by exact kB1 HB.out GE349.out⟩
 rw [if_neg c10] at H
 have c10b0 : (b6 == 47) = false := beq_eq_false_iff_ne.mpr c10
 have c10b1 : (b6 != 47) = true := bne_iff_ne.mpr c10
 by_cases c14 : b6 = 17
 ·rw [if_pos c14] at H
  have c14b0 : (b6 == 17) = true := beq_iff_eq.mpr c14
  have c14b1 : (b6 != 17) = false := bne_eq_false_iff_eq.mpr c14
  clear c14
  replace H := Option.bind_eq_some_iff.mp H
  obtain ⟨⟨t359, t360, t361⟩, A150, H⟩ := H
  replace H : (some (t359, t360, t361)) = some (r1, r2, r3) := H
  have A15 := As A150
  clear A150
  simp only [Option.some.injEq, Prod.mk.injEq] at H
  obtain ⟨rfl, rfl, rfl⟩ := H
  go_enter Tryd.func20, Tryd.ntmps20
  go_wp2_with (first | ((with_reducible refine gate_dst (N := 1) rfl ?_); refine box_event rfl (N := 1) rfl (cs := #[.bool b0, .int .u64 b1, .int .u64 b2, .bool b3, .int .u64 b4, .int .u64 b5, .int .i64 b6, .int .i64 b7, .string b8]) (t := 30) kG ?_; intro gb349 hg w16 hbox hb; have BK349 := As (hbox); have GW349 := As ((by rw [hg]; exact (below_size (kB HB.out)) : w.heap.size ≤ gb349)); have GE349 := As ((by rw [hg]; exact (below_size (kB HB.out)) : w.heap.size ≤ gb349)); replace HB := As (below_step (kB HB.out) hb); clear hb hbox hg; have hcz17_0 := cells_9 BK349.out; have hfz17_0 := fun j_ => blk_frozen BK349.out j_) | ((with_reducible refine gate_dst (N := 33) rfl ?_); (try (refine gate_guard (by rfl) ?_; dsimp only)); refine wpList_load_row ?hgd 30 _ rfl gb349 rfl 30 #[.bool b0, .int .u64 b1, .int .u64 b2, .bool b3, .int .u64 b4, .int .u64 b5, .int .i64 b6, .int .i64 b7, .string b8] (0, 0) _ (kb BK349.out) Tryd.underlying30 rfl (by kernel_rfl) ?_; (case hgd => rfl)) | ((with_reducible refine gate_callee (f := 46) rfl ?_); refine goesL_ (some 34) rfl rfl Tryd.func46 (by kernel_rfl) rfl #[.agg #[.bool b0, .int .u64 b1, .int .u64 b2, .bool b3, .int .u64 b4, .int .u64 b5, .int .i64 b6, .int .i64 b7, .string b8]] rfl kA ?_; (with_reducible refine (intrusionref17_vxlan.calls k b0 b1 b2 b3 b4 b5 b6 b7 b8 t359 t360 t361 _ A15.out).mono ?_); rintro e w18 ⟨rfl, hb⟩; refine ⟨_, rfl, ?_⟩; replace BK349 := As (blk_below (kb BK349.out) hb); replace HB := As (below_step (kB1 HB.out GE349.out) hb); (try clear hb)))
  go_ret3
  exact ⟨kE, by exact kB1 HB.out GE349.out⟩
 rw [if_neg c14] at H
 have c14b0 : (b6 == 17) = false := beq_eq_false_iff_ne.mpr c14
 have c14b1 : (b6 != 17) = true := bne_iff_ne.mpr c14
 simp only [Option.some.injEq, Prod.mk.injEq] at H
 obtain ⟨rfl, rfl, rfl⟩ := H
 go_enter Tryd.func20, Tryd.ntmps20
 go_wp2_with (first | ((with_reducible refine gate_dst (N := 1) rfl ?_); refine box_event rfl (N := 1) rfl (cs := #[.bool b0, .int .u64 b1, .int .u64 b2, .bool b3, .int .u64 b4, .int .u64 b5, .int .i64 b6, .int .i64 b7, .string b8]) (t := 30) kG ?_; intro gb349 hg w19 hbox hb; have BK349 := As (hbox); have GW349 := As ((by rw [hg]; exact (below_size (kB HB.out)) : w.heap.size ≤ gb349)); have GE349 := As ((by rw [hg]; exact (below_size (kB HB.out)) : w.heap.size ≤ gb349)); replace HB := As (below_step (kB HB.out) hb); clear hb hbox hg; have hcz20_0 := cells_9 BK349.out; have hfz20_0 := fun j_ => blk_frozen BK349.out j_))
 go_ret3
 exact ⟨kE, by exact kB1 HB.out GE349.out⟩

/-! ### intrusionlaw17_TunnelInner: function 5 -/
def intrusionlaw17_TunnelInner.f (k : Nat) (b0 : Bool) (b1 : Int) (b2 : Int) (b3 : Bool) (b4 : Int) (b5 : Int) (b6 : Int) (b7 : Int) (b8 : ByteArray) : Option (Bool) := (intrusionlaw17_long.f b8).bind fun t363 => (if t363 = true then ((intrusionlaw17_awake.f k).bind fun t364 => (some t364)) else ((tunnel_Inner.f k b0 b1 b2 b3 b4 b5 b6 b7 b8).bind fun bt365 => ((intrusionref17_Inner.f k b0 b1 b2 b3 b4 b5 b6 b7 b8).bind fun bt368 => (if bt365.1 = bt368.1 then (if bt365.2.1.toList = bt368.2.1.toList then (if bt365.2.2 = bt368.2.2 then ((intrusionlaw17_awake.f k).bind fun t371 => (some t371)) else (none)) else (none)) else (none)))))
theorem intrusionlaw17_TunnelInner.mono : ∀ a0 a1 a2 a3 a4 a5 a6 a7 a8 k, LeO (intrusionlaw17_TunnelInner.f k a0 a1 a2 a3 a4 a5 a6 a7 a8) (intrusionlaw17_TunnelInner.f (k + 1) a0 a1 a2 a3 a4 a5 a6 a7 a8) := by
 intro a0 a1 a2 a3 a4 a5 a6 a7 a8 k
 unfold intrusionlaw17_TunnelInner.f
 repeat' first | with_reducible first | apply intrusionlaw17_awake.mono | apply intrusionref17_Inner.mono | apply tunnel_Inner.mono | apply LeO.refl | apply LeO.none | refine LeO.ite ?_ ?_ | refine LeO.bind ?_ (fun _ => ?_)
set_option maxHeartbeats 8000000 in
set_option maxRecDepth 100000 in
theorem intrusionlaw17_TunnelInner.calls (k : Nat) (b0 : Bool) (b1 : Int) (b2 : Int) (b3 : Bool) (b4 : Int) (b5 : Int) (b6 : Int) (b7 : Int) (b8 : ByteArray) (r : Bool) (w : World) (hLd : Laid w) (h : intrusionlaw17_TunnelInner.f k b0 b1 b2 b3 b4 b5 b6 b7 b8 = some r) :
  Calls Tryd.prog 5 #[.agg #[.bool b0, .int .u64 b1, .int .u64 b2, .bool b3, .int .u64 b4, .int .u64 b5, .int .i64 b6, .int .i64 b7, .string b8]] w fun e w' => e = .returned (.bool r) ∧ Below w.heap.size w w' := by
 have hu30 := Tryd.underlying30
 have HLD := As hLd
 clear hLd
 have HB := As (Below.refl w.heap.size w)
 have H : ((intrusionlaw17_long.f b8).bind fun t363 => (if t363 = true then ((intrusionlaw17_awake.f k).bind fun t364 => (some t364)) else ((tunnel_Inner.f k b0 b1 b2 b3 b4 b5 b6 b7 b8).bind fun bt365 => ((intrusionref17_Inner.f k b0 b1 b2 b3 b4 b5 b6 b7 b8).bind fun bt368 => (if bt365.1 = bt368.1 then (if bt365.2.1.toList = bt368.2.1.toList then (if bt365.2.2 = bt368.2.2 then ((intrusionlaw17_awake.f k).bind fun t371 => (some t371)) else (none)) else (none)) else (none)))))) = some r := h
 clear h
 replace H := Option.bind_eq_some_iff.mp H
 obtain ⟨t363, A20, H⟩ := H
 replace H : (if t363 = true then ((intrusionlaw17_awake.f k).bind fun t364 => (some t364)) else ((tunnel_Inner.f k b0 b1 b2 b3 b4 b5 b6 b7 b8).bind fun bt365 => ((intrusionref17_Inner.f k b0 b1 b2 b3 b4 b5 b6 b7 b8).bind fun bt368 => (if bt365.1 = bt368.1 then (if bt365.2.1.toList = bt368.2.1.toList then (if bt365.2.2 = bt368.2.2 then ((intrusionlaw17_awake.f k).bind fun t371 => (some t371)) else (none)) else (none)) else (none))))) = some r := H
 have A2 := As A20
 clear A20
 by_cases c3 : t363 = true
 ·subst c3
  have H1 : ((intrusionlaw17_awake.f k).bind fun t364 => (some t364)) = some r := by rw [if_pos rfl] at H; exact H
  clear H
  have H := H1
  clear H1
  replace H := Option.bind_eq_some_iff.mp H
  obtain ⟨t364, A40, H⟩ := H
  replace H : (some t364) = some r := H
  have A4 := As A40
  clear A40
  obtain rfl := Option.some.inj H
  go_enter Tryd.func5, Tryd.ntmps5
  go_wp2_with (first | ((with_reducible refine gate_dst (N := 1) rfl ?_); refine box_event rfl (N := 1) rfl (cs := #[.bool b0, .int .u64 b1, .int .u64 b2, .bool b3, .int .u64 b4, .int .u64 b5, .int .i64 b6, .int .i64 b7, .string b8]) (t := 30) kG ?_; intro gb362 hg w5 hbox hb; have BK362 := As (hbox); have GW362 := As ((by rw [hg]; exact (below_size (kB HB.out)) : w.heap.size ≤ gb362)); have GE362 := As ((by rw [hg]; exact (below_size (kB HB.out)) : w.heap.size ≤ gb362)); replace HB := As (below_step (kB HB.out) hb); clear hb hbox hg; have hcz6_0 := cells_9 BK362.out; have hfz6_0 := fun j_ => blk_frozen BK362.out j_) | ((with_reducible refine gate_callee (f := 10) rfl ?_); refine goesL_ (some 11) rfl rfl Tryd.func10 (by kernel_rfl) rfl #[.string b8] rfl kA ?_; (with_reducible refine (intrusionlaw17_long.calls b8 true _ A2.out).mono ?_); rintro e w' ⟨rfl, ⟨nd, rfl⟩⟩; refine ⟨_, rfl, ?_⟩) | ((with_reducible refine gate_callee (f := 11) rfl ?_); refine goesL_ (some 12) rfl rfl Tryd.func11 (by kernel_rfl) rfl #[] rfl kA ?_; (with_reducible refine (intrusionlaw17_awake.calls k  t364 _ ?side1 A4.out).mono ?_); (case side1 => exact laid_below HLD.out (kB1 HB.out GE362.out)); rintro e w7 ⟨rfl, hb⟩; refine ⟨_, rfl, ?_⟩; replace BK362 := As (blk_below (kb BK362.out) hb); replace HB := As (below_step (kB1 HB.out GE362.out) hb); (try clear hb)))
  go_ret
  exact ⟨kE, by exact kB1 HB.out GE362.out⟩
 replace c3 := Bool.eq_false_iff.mpr c3
 subst c3
 have H1 : ((tunnel_Inner.f k b0 b1 b2 b3 b4 b5 b6 b7 b8).bind fun bt365 => ((intrusionref17_Inner.f k b0 b1 b2 b3 b4 b5 b6 b7 b8).bind fun bt368 => (if bt365.1 = bt368.1 then (if bt365.2.1.toList = bt368.2.1.toList then (if bt365.2.2 = bt368.2.2 then ((intrusionlaw17_awake.f k).bind fun t371 => (some t371)) else (none)) else (none)) else (none)))) = some r := by rw [if_neg (show ¬ (false = true) by decide)] at H; exact H
 clear H
 have H := H1
 clear H1
 replace H := Option.bind_eq_some_iff.mp H
 obtain ⟨⟨t365, t366, t367⟩, A80, H⟩ := H
 replace H : ((intrusionref17_Inner.f k b0 b1 b2 b3 b4 b5 b6 b7 b8).bind fun bt368 => (if t365 = bt368.1 then (if t366.toList = bt368.2.1.toList then (if t367 = bt368.2.2 then ((intrusionlaw17_awake.f k).bind fun t371 => (some t371)) else (none)) else (none)) else (none))) = some r := H
 have A8 := As A80
 clear A80
 replace H := Option.bind_eq_some_iff.mp H
 obtain ⟨⟨t368, t369, t370⟩, A90, H⟩ := H
 replace H : (if t365 = t368 then (if t366.toList = t369.toList then (if t367 = t370 then ((intrusionlaw17_awake.f k).bind fun t371 => (some t371)) else (none)) else (none)) else (none)) = some r := H
 have A9 := As A90
 clear A90
 by_cases c10 : t365 = t368
 ·rw [if_pos c10] at H
  have c10b0 : (t365 == t368) = true := beq_iff_eq.mpr c10
  have c10b1 : (t365 != t368) = false := bne_eq_false_iff_eq.mpr c10
  clear c10
  by_cases c11 : t366.toList = t369.toList
  ·rw [if_pos c11] at H
   have c11b0 : (t366.toList == t369.toList) = true := beq_iff_eq.mpr c11
   have c11b1 : (t366.toList != t369.toList) = false := bne_eq_false_iff_eq.mpr c11
   clear c11
   by_cases c12 : t367 = t370
   ·rw [if_pos c12] at H
    have c12b0 : (t367 == t370) = true := beq_iff_eq.mpr c12
    have c12b1 : (t367 != t370) = false := bne_eq_false_iff_eq.mpr c12
    clear c12
    replace H := Option.bind_eq_some_iff.mp H
    obtain ⟨t371, A130, H⟩ := H
    replace H : (some t371) = some r := H
    have A13 := As A130
    clear A130
    obtain rfl := Option.some.inj H
    go_enter Tryd.func5, Tryd.ntmps5
    go_wp2_with (first | ((with_reducible refine gate_dst (N := 1) rfl ?_); refine box_event rfl (N := 1) rfl (cs := #[.bool b0, .int .u64 b1, .int .u64 b2, .bool b3, .int .u64 b4, .int .u64 b5, .int .i64 b6, .int .i64 b7, .string b8]) (t := 30) kG ?_; intro gb362 hg w14 hbox hb; have BK362 := As (hbox); have GW362 := As ((by rw [hg]; exact (below_size (kB HB.out)) : w.heap.size ≤ gb362)); have GE362 := As ((by rw [hg]; exact (below_size (kB HB.out)) : w.heap.size ≤ gb362)); replace HB := As (below_step (kB HB.out) hb); clear hb hbox hg; have hcz15_0 := cells_9 BK362.out; have hfz15_0 := fun j_ => blk_frozen BK362.out j_) | ((with_reducible refine gate_callee (f := 10) rfl ?_); refine goesL_ (some 11) rfl rfl Tryd.func10 (by kernel_rfl) rfl #[.string b8] rfl kA ?_; (with_reducible refine (intrusionlaw17_long.calls b8 false _ A2.out).mono ?_); rintro e w' ⟨rfl, ⟨nd, rfl⟩⟩; refine ⟨_, rfl, ?_⟩) | ((with_reducible refine gate_dst (N := 14) rfl ?_); (try (refine gate_guard (by rfl) ?_; dsimp only)); refine wpList_load_row ?hgd 30 _ rfl gb362 rfl 30 #[.bool b0, .int .u64 b1, .int .u64 b2, .bool b3, .int .u64 b4, .int .u64 b5, .int .i64 b6, .int .i64 b7, .string b8] (0, 0) _ (kb BK362.out) Tryd.underlying30 rfl (by kernel_rfl) ?_; (case hgd => rfl)) | ((with_reducible refine gate_callee (f := 18) rfl ?_); refine goesL_ (some 15) rfl rfl Tryd.func18 (by kernel_rfl) rfl #[.agg #[.bool b0, .int .u64 b1, .int .u64 b2, .bool b3, .int .u64 b4, .int .u64 b5, .int .i64 b6, .int .i64 b7, .string b8]] rfl kA ?_; (with_reducible refine (tunnel_Inner.calls k b0 b1 b2 b3 b4 b5 b6 b7 b8 t365 t366 t367 _ ?side1 A8.out).mono ?_); (case side1 => exact laid_below HLD.out (kB1 HB.out GE362.out)); rintro e w16 ⟨rfl, hb⟩; refine ⟨_, rfl, ?_⟩; replace BK362 := As (blk_below (kb BK362.out) hb); replace HB := As (below_step (kB1 HB.out GE362.out) hb); (try clear hb)) | ((with_reducible refine gate_dst (N := 20) rfl ?_); (try (refine gate_guard (by rfl) ?_; dsimp only)); refine wpList_load_row ?hgd 30 _ rfl gb362 rfl 30 #[.bool b0, .int .u64 b1, .int .u64 b2, .bool b3, .int .u64 b4, .int .u64 b5, .int .i64 b6, .int .i64 b7, .string b8] (0, 0) _ (kb BK362.out) Tryd.underlying30 rfl (by kernel_rfl) ?_; (case hgd => rfl)) | ((with_reducible refine gate_callee (f := 20) rfl ?_); refine goesL_ (some 21) rfl rfl Tryd.func20 (by kernel_rfl) rfl #[.agg #[.bool b0, .int .u64 b1, .int .u64 b2, .bool b3, .int .u64 b4, .int .u64 b5, .int .i64 b6, .int .i64 b7, .string b8]] rfl kA ?_; (with_reducible refine (intrusionref17_Inner.calls k b0 b1 b2 b3 b4 b5 b6 b7 b8 t368 t369 t370 _ A9.out).mono ?_); rintro e w17 ⟨rfl, hb⟩; refine ⟨_, rfl, ?_⟩; replace BK362 := As (blk_below (kb BK362.out) hb); replace HB := As (below_step (kB1 HB.out GE362.out) hb); (try clear hb)) | (go_at_call 11; (with_reducible refine (intrusionlaw17_awake.calls k  t371 _ ?side1 A13.out).mono ?_); (case side1 => exact laid_below HLD.out (kB1 HB.out GE362.out)); rintro e w18 ⟨rfl, hb⟩; replace BK362 := As (blk_below (kb BK362.out) hb); replace HB := As (below_step (kB1 HB.out GE362.out) hb); (try clear hb)))
    go_ret
    exact ⟨kE, by exact kB1 HB.out GE362.out⟩
   rw [if_neg c12] at H
   exact absurd H (by simp)
  rw [if_neg c11] at H
  exact absurd H (by simp)
 rw [if_neg c10] at H
 exact absurd H (by simp)

end Go.Proofs.YtocobalkikkhlaaDoor.X
-- short
