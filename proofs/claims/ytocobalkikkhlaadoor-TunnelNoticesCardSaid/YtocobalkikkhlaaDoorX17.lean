/- Functions and their walks, printed by xprint.py. -/
import Derived.Test.YtocobalkikkhlaaDoorX0
import Derived.Test.YtocobalkikkhlaaDoorX4
import Derived.Test.YtocobalkikkhlaaDoorX16
namespace Go.Proofs.YtocobalkikkhlaaDoor.X
open Go.RowKit Go.Proofs.YtocobalkikkhlaaDoorW.PrintWords Go.Proofs.YtocobalkikkhlaaDoorW.PrintLast Go.Proofs.YtocobalkikkhlaaDoorW.PrintMore
attribute [local go_sem] max2_int min2_int max_two min_two max_three min_three max_four min_four   -- for this text's walks alone
set_option linter.unusedVariables false
set_option linter.unusedSimpArgs false

/-! ### tunnel_WrapVxlan: function 24 -/
def tunnel_WrapVxlan.j0 : Nat → Int → ByteArray → Bool → Bool → Int → Int → Bool → Int → Int → Option (Bool × Int × Int × Bool × Int × Int × Int × Int × ByteArray × Int)
 | 0, _, _, _, _, _, _, _, _, _ => none
 | k + 1, x2, x3, x22, x463000, x463001, x463002, x464000, x464001, x464002 => if x22 = true then (some (false, 0, 0, false, 0, 0, 0, 0, (⟨#[]⟩ : ByteArray), 4)) else (if (x3.size : Int) > 65000 then (some (false, 0, 0, false, 0, 0, 0, 0, (⟨#[]⟩ : ByteArray), 3)) else ((field_Put.f k x2 3).bind fun t466 => (if 4 + t466.size ≤ 9223372036854775807 then (if ((⟨#[8, 0, 0, 0]⟩ : ByteArray) ++ t466).size + 1 ≤ 9223372036854775807 then (if (((⟨#[8, 0, 0, 0]⟩ : ByteArray) ++ t466) ++ (⟨#[0]⟩ : ByteArray)).size + x3.size ≤ 9223372036854775807 then ((udp_Encode.f k x463000 x463001 x463002 x464000 x464001 x464002 49152 4789 ((((⟨#[8, 0, 0, 0]⟩ : ByteArray) ++ t466) ++ (⟨#[0]⟩ : ByteArray)) ++ x3)).bind fun bt467 => (if bt467.2 = 0 then ((tunnel_wrapped.f x463000 x463001 x463002 x464000 x464001 x464002 17 bt467.1).bind fun bt469 => (some (bt469.1, bt469.2.1, bt469.2.2.1, bt469.2.2.2.1, bt469.2.2.2.2.1, bt469.2.2.2.2.2.1, bt469.2.2.2.2.2.2.1, bt469.2.2.2.2.2.2.2.1, bt469.2.2.2.2.2.2.2.2.1, bt469.2.2.2.2.2.2.2.2.2))) else (some (false, 0, 0, false, 0, 0, 0, 0, (⟨#[]⟩ : ByteArray), bt467.2)))) else (none)) else (none)) else (none))))
def tunnel_WrapVxlan.f (k : Nat) (b0 : Bool) (b1 : Int) (b2 : Int) (d0 : Bool) (d1 : Int) (d2 : Int) (a2 : Int) (a3 : ByteArray) : Option (Bool × Int × Int × Bool × Int × Int × Int × Int × ByteArray × Int) := (tunnel_related.f b0 b1 b2 d0 d1 d2).bind fun t465 => (if t465 = true then (if a2 < 0 then (tunnel_WrapVxlan.j0 k a2 a3 true b0 b1 b2 d0 d1 d2) else (tunnel_WrapVxlan.j0 k a2 a3 (decide (a2 ≥ 16777216)) b0 b1 b2 d0 d1 d2)) else (some (false, 0, 0, false, 0, 0, 0, 0, (⟨#[]⟩ : ByteArray), 13)))
theorem tunnel_WrapVxlan.mono_l : ∀ k, (∀ y0 y1 y2 y3 y4 y5 y6 y7 y8, LeO (tunnel_WrapVxlan.j0 k y0 y1 y2 y3 y4 y5 y6 y7 y8) (tunnel_WrapVxlan.j0 (k + 1) y0 y1 y2 y3 y4 y5 y6 y7 y8))
 | 0 => fun _ _ _ _ _ _ _ _ _ r h => by simp [tunnel_WrapVxlan.j0] at h
 | k + 1 => by
  have ih0 := tunnel_WrapVxlan.mono_l k
  intro y0 y1 y2 y3 y4 y5 y6 y7 y8
  unfold tunnel_WrapVxlan.j0
  repeat' first | with_reducible first | apply ih0 | apply field_Put.mono | apply udp_Encode.mono | apply LeO.refl | apply LeO.none | refine LeO.ite ?_ ?_ | refine LeO.bind ?_ (fun _ => ?_)
theorem tunnel_WrapVxlan.mono : ∀ a0 a1 a2 a3 a4 a5 a6 a7 k, LeO (tunnel_WrapVxlan.f k a0 a1 a2 a3 a4 a5 a6 a7) (tunnel_WrapVxlan.f (k + 1) a0 a1 a2 a3 a4 a5 a6 a7) := by
 intro a0 a1 a2 a3 a4 a5 a6 a7 k
 have ih0 := tunnel_WrapVxlan.mono_l k
 unfold tunnel_WrapVxlan.f
 repeat' first | with_reducible first | apply ih0 | apply field_Put.mono | apply udp_Encode.mono | apply LeO.refl | apply LeO.none | refine LeO.ite ?_ ?_ | refine LeO.bind ?_ (fun _ => ?_)
def tunnel_WrapVxlan.T7 : Bool × List (List Nat × List Nat) := (true, [([], []), ([], []), ([], []), ([2], [2]), ([3], [3]), ([4], [4]), ([], []), ([5, 6], [5, 6]), ([7], [7]), ([0, 1, 8, 3], [0, 1, 8]), ([9], [9]), ([10], [10]), ([10], [10]), ([11, 9, 0, 1, 2, 3, 4, 5, 6, 7, 8, 9, 10, 11], [11]), ([12, 13, 0, 1, 2, 3, 4, 5, 6, 7, 8, 9, 10, 11, 12, 13], [12])])
def tunnel_WrapVxlan.B7 : List Nat := [0, 0, 0, 4, 12, 28, 0, 124, 252, 511, 1023, 2047, 2047, 4095, 16383]
theorem tunnel_WrapVxlan.tab7 : rtab .any (opsOf Tryd.f24 7) = tunnel_WrapVxlan.T7 := by kernel_rfl
theorem tunnel_WrapVxlan.bits7 : waitsOk tunnel_WrapVxlan.T7.2 tunnel_WrapVxlan.B7 = true := by kernel_rfl
set_option maxHeartbeats 8000000 in
set_option maxRecDepth 100000 in
theorem tunnel_WrapVxlan.calls (k : Nat) (b0 : Bool) (b1 : Int) (b2 : Int) (d0 : Bool) (d1 : Int) (d2 : Int) (a2 : Int) (a3 : ByteArray) (r1 : Bool) (r2 : Int) (r3 : Int) (r4 : Bool) (r5 : Int) (r6 : Int) (r7 : Int) (r8 : Int) (r9 : ByteArray) (r10 : Int) (w : World) (hLd : Laid w) (h : tunnel_WrapVxlan.f k b0 b1 b2 d0 d1 d2 a2 a3 = some (r1, r2, r3, r4, r5, r6, r7, r8, r9, r10)) :
  Calls Tryd.prog 24 #[.agg #[.bool b0, .int .u64 b1, .int .u64 b2], .agg #[.bool d0, .int .u64 d1, .int .u64 d2], .int .i64 a2, .string a3] w fun e w' => e = .returned (.tuple #[.agg #[.bool r1, .int .u64 r2, .int .u64 r3, .bool r4, .int .u64 r5, .int .u64 r6, .int .i64 r7, .int .i64 r8, .string r9], .int .i64 r10]) ∧ Below w.heap.size w w' := by
 have hu24 := Tryd.underlying24
 have hu30 := Tryd.underlying30
 have hu85 := Tryd.underlying85
 have HLD := As hLd
 clear hLd
 have HB := As (Below.refl w.heap.size w)
 have H : ((tunnel_related.f b0 b1 b2 d0 d1 d2).bind fun t465 => (if t465 = true then (if a2 < 0 then (tunnel_WrapVxlan.j0 k a2 a3 true b0 b1 b2 d0 d1 d2) else (tunnel_WrapVxlan.j0 k a2 a3 (decide (a2 ≥ 16777216)) b0 b1 b2 d0 d1 d2)) else (some (false, 0, 0, false, 0, 0, 0, 0, (⟨#[]⟩ : ByteArray), 13)))) = some (r1, r2, r3, r4, r5, r6, r7, r8, r9, r10) := h
 clear h
 replace H := Option.bind_eq_some_iff.mp H
 obtain ⟨t465, A50, H⟩ := H
 replace H : (if t465 = true then (if a2 < 0 then (tunnel_WrapVxlan.j0 k a2 a3 true b0 b1 b2 d0 d1 d2) else (tunnel_WrapVxlan.j0 k a2 a3 (decide (a2 ≥ 16777216)) b0 b1 b2 d0 d1 d2)) else (some (false, 0, 0, false, 0, 0, 0, 0, (⟨#[]⟩ : ByteArray), 13))) = some (r1, r2, r3, r4, r5, r6, r7, r8, r9, r10) := H
 have A5 := As A50
 clear A50
 by_cases c6 : t465 = true
 ·subst c6
  have H1 : (if a2 < 0 then (tunnel_WrapVxlan.j0 k a2 a3 true b0 b1 b2 d0 d1 d2) else (tunnel_WrapVxlan.j0 k a2 a3 (decide (a2 ≥ 16777216)) b0 b1 b2 d0 d1 d2)) = some (r1, r2, r3, r4, r5, r6, r7, r8, r9, r10) := by rw [if_pos rfl] at H; exact H
  clear H
  have H := H1
  clear H1
  have HC7 := As H
  clear H
  go_enter Tryd.func24, Tryd.ntmps24
  go_upto_region 3 with (first | ((with_reducible refine gate_dst (N := 4) rfl ?_); refine box_event rfl (N := 4) rfl (cs := #[.bool b0, .int .u64 b1, .int .u64 b2]) (t := 24) kG ?_; intro gb462 hg w8 hbox hb; have BK462 := As (hbox); have GW462 := As ((by rw [hg]; exact (below_size (kB HB.out)) : w.heap.size ≤ gb462)); have GE462 := As ((by rw [hg]; exact (below_size (kB HB.out)) : w.heap.size ≤ gb462)); replace HB := As (below_step (kB HB.out) hb); clear hb hbox hg) | ((with_reducible refine gate_dst (N := 5) rfl ?_); refine box_event rfl (N := 5) rfl (cs := #[.bool d0, .int .u64 d1, .int .u64 d2]) (t := 24) kG ?_; intro gb463 hg w9 hbox hb; have BK463 := As (hbox); have GW463 := As ((by rw [hg]; exact (below_size (kB1 HB.out GE462.out)) : w.heap.size ≤ gb463)); have GE463 := As ((by rw [hg]; exact (below_size (kB1 HB.out GE462.out)) : w.heap.size ≤ gb463)); replace HB := As (below_step (kB1 HB.out GE462.out) hb); have NB462_463 := As ((by rw [hg]; exact Nat.ne_of_lt (blk_lt (kb BK462.out)) : gb462 ≠ gb463)); have NB463_462 := As ((by rw [hg]; exact Nat.ne_of_gt (blk_lt (kb BK462.out)) : gb463 ≠ gb462)); replace BK462 := As (blk_below (kb BK462.out) hb); clear hb hbox hg) | ((with_reducible refine gate_dst (N := 8) rfl ?_); refine box_event rfl (N := 8) rfl (cs := #[.bool false, .int .u64 0, .int .u64 0, .bool false, .int .u64 0, .int .u64 0, .int .i64 0, .int .i64 0, .string (⟨#[]⟩ : ByteArray)]) (t := 30) kG ?_; intro gb464 hg w10 hbox hb; have BK464 := As (hbox); have GW464 := As ((by rw [hg]; exact (below_size (kB2 HB.out GE462.out GE463.out)) : w.heap.size ≤ gb464)); have GE464 := As ((by rw [hg]; exact (below_size (kB2 HB.out GE462.out GE463.out)) : w.heap.size ≤ gb464)); replace HB := As (below_step (kB2 HB.out GE462.out GE463.out) hb); have NB462_464 := As ((by rw [hg]; exact Nat.ne_of_lt (blk_lt (kb BK462.out)) : gb462 ≠ gb464)); have NB464_462 := As ((by rw [hg]; exact Nat.ne_of_gt (blk_lt (kb BK462.out)) : gb464 ≠ gb462)); replace BK462 := As (blk_below (kb BK462.out) hb); have NB463_464 := As ((by rw [hg]; exact Nat.ne_of_lt (blk_lt (kb BK463.out)) : gb463 ≠ gb464)); have NB464_463 := As ((by rw [hg]; exact Nat.ne_of_gt (blk_lt (kb BK463.out)) : gb464 ≠ gb463)); replace BK463 := As (blk_below (kb BK463.out) hb); clear hb hbox hg; have hnb11 := NB462_463.out; have hnc11 := NB463_462.out; have hnb12 := NB462_464.out; have hnc12 := NB464_462.out; have hcz13_0 := cells_3 BK462.out; have hfz13_0 := fun j_ => blk_frozen BK462.out j_; have hnb14 := NB463_464.out; have hnc14 := NB464_463.out; have hcz15_0 := cells_3 BK463.out; have hfz15_0 := fun j_ => blk_frozen BK463.out j_) | ((with_reducible refine gate_callee (f := 26) rfl ?_); refine goesL_ (some 14) rfl rfl Tryd.func26 (by kernel_rfl) rfl #[.agg #[.bool b0, .int .u64 b1, .int .u64 b2], .agg #[.bool d0, .int .u64 d1, .int .u64 d2]] rfl kA ?_; (with_reducible refine (tunnel_related.calls b0 b1 b2 d0 d1 d2 true _ A5.out).mono ?_); rintro e w16 ⟨rfl, hb⟩; refine ⟨_, rfl, ?_⟩; replace BK462 := As (blk_below (kb BK462.out) hb); replace BK463 := As (blk_below (kb BK463.out) hb); replace BK464 := As (blk_below (kb BK464.out) hb); replace HB := As (below_step (kB3 HB.out GE462.out GE463.out GE464.out) hb); (try clear hb)))
  (try simp only [Act.put, sA, sZ, sS])
  go_cut [22] (fun v22 wc => ∃ (kq : Nat) (x22_6 : Bool), v22 = .bool x22_6 ∧ Aside0 (tunnel_WrapVxlan.j0 kq a2 a3 x22_6 b0 b1 b2 d0 d1 d2 = some (r1, r2, r3, r4, r5, r6, r7, r8, r9, r10)) ∧ Aside0 (kq ≤ k) ∧ Aside0 (wc.heap[gb462]? = some (.cells #[.bool b0, .int .u64 b1, .int .u64 b2] 24 (0, 0))) ∧ Aside0 (wc.heap[gb463]? = some (.cells #[.bool d0, .int .u64 d1, .int .u64 d2] 24 (0, 0))) ∧ Aside0 (wc.heap[gb464]? = some (.cells #[.bool false, .int .u64 0, .int .u64 0, .bool false, .int .u64 0, .int .u64 0, .int .i64 0, .int .i64 0, .string (⟨#[]⟩ : ByteArray)] 30 (0, 0))) ∧ Aside0 (Below w.heap.size w wc))
  case first =>
   have H := HC7.out
   clear HC7
   by_cases c17 : a2 < 0
   ·rw [if_pos c17] at H
    have c17b0 : decide (a2 < 0) = true := decide_eq_true c17
    clear c17
    (first | rw [c17b0] | (simp only [i64_w, i32_w]; rw [c17b0]) | skip)
    have H' := As H
    clear H
    go_wp2
    go_meet
    case rel => exact ⟨_, (true), kS, H', ⟨by first | omega | exact Nat.le_refl _⟩, ⟨kb BK462.out⟩, ⟨kb BK463.out⟩, ⟨kb BK464.out⟩, ⟨kB3 HB.out GE462.out GE463.out GE464.out⟩⟩
   rw [if_neg c17] at H
   have c17b0 : decide (a2 < 0) = false := decide_eq_false c17
   clear c17
   (first | rw [c17b0] | (simp only [i64_w, i32_w]; rw [c17b0]) | skip)
   have H' := As H
   clear H
   go_wp2
   go_meet
   case rel => exact ⟨_, (decide (a2 ≥ 16777216)), kS, H', ⟨by first | omega | exact Nat.le_refl _⟩, ⟨kb BK462.out⟩, ⟨kb BK463.out⟩, ⟨kb BK464.out⟩, ⟨kB3 HB.out GE462.out GE463.out GE464.out⟩⟩
  clear HC7
  try clear c6
  try clear hcz13_0
  try clear hcz15_0
  try clear hfz13_0
  try clear hfz15_0
  obtain ⟨kq, x22_6, rfl, HA, HJ6, BK462, BK463, BK464, HB⟩ := hcut
  cases kq with
  | zero => exact absurd HA.out (by simp [tunnel_WrapVxlan.j0])
  | succ kj6 =>
   have H := HA.out
   clear HA
   simp only [tunnel_WrapVxlan.j0] at H
   by_cases c18 : x22_6 = true
   ·subst c18
    have H1 : (some (false, 0, 0, false, 0, 0, 0, 0, (⟨#[]⟩ : ByteArray), 4)) = some (r1, r2, r3, r4, r5, r6, r7, r8, r9, r10) := by rw [if_pos rfl] at H; exact H
    clear H
    have H := H1
    clear H1
    simp only [Option.some.injEq, Prod.mk.injEq] at H
    obtain ⟨rfl, rfl, rfl, rfl, rfl, rfl, rfl, rfl, rfl, rfl⟩ := H
    go_wp2_with (first | ((with_reducible refine gate_store (t := 30) (p := 8) rfl ?_); refine store_rowev_9 gb464 (.bool false) (.int .u64 0) (.int .u64 0) (.bool false) (.int .u64 0) (.int .u64 0) (.int .i64 0) (.int .i64 0) (.string (⟨#[]⟩ : ByteArray)) rfl (t := 30) (p := 8) (v := _) rfl rfl rfl rfl (t' := 30) (kb BK464.out) (by rfl) (by kernel_rfl) (by rfl) ?_))
    refine bodyPost_ret (results_ct rfl _ _ gb464 30 #[.bool false, .int .u64 0, .int .u64 0, .bool false, .int .u64 0, .int .u64 0, .int .i64 0, .int .i64 0, .string (⟨#[]⟩ : ByteArray)] (0, 0) _ rfl (by refine kb ?_; exact blk_all_9 (kb BK464.out) (by rfl)) Tryd.underlying30 rfl (by kernel_rfl)) rfl ?_
    exact ⟨kE, by exact kB3 HB.out GE462.out GE463.out GE464.out⟩
   replace c18 := Bool.eq_false_iff.mpr c18
   subst c18
   have H1 : (if (a3.size : Int) > 65000 then (some (false, 0, 0, false, 0, 0, 0, 0, (⟨#[]⟩ : ByteArray), 3)) else ((field_Put.f kj6 a2 3).bind fun t466 => (if 4 + t466.size ≤ 9223372036854775807 then (if ((⟨#[8, 0, 0, 0]⟩ : ByteArray) ++ t466).size + 1 ≤ 9223372036854775807 then (if (((⟨#[8, 0, 0, 0]⟩ : ByteArray) ++ t466) ++ (⟨#[0]⟩ : ByteArray)).size + a3.size ≤ 9223372036854775807 then ((udp_Encode.f kj6 b0 b1 b2 d0 d1 d2 49152 4789 ((((⟨#[8, 0, 0, 0]⟩ : ByteArray) ++ t466) ++ (⟨#[0]⟩ : ByteArray)) ++ a3)).bind fun bt467 => (if bt467.2 = 0 then ((tunnel_wrapped.f b0 b1 b2 d0 d1 d2 17 bt467.1).bind fun bt469 => (some (bt469.1, bt469.2.1, bt469.2.2.1, bt469.2.2.2.1, bt469.2.2.2.2.1, bt469.2.2.2.2.2.1, bt469.2.2.2.2.2.2.1, bt469.2.2.2.2.2.2.2.1, bt469.2.2.2.2.2.2.2.2.1, bt469.2.2.2.2.2.2.2.2.2))) else (some (false, 0, 0, false, 0, 0, 0, 0, (⟨#[]⟩ : ByteArray), bt467.2)))) else (none)) else (none)) else (none)))) = some (r1, r2, r3, r4, r5, r6, r7, r8, r9, r10) := by rw [if_neg (show ¬ (false = true) by decide)] at H; exact H
   clear H
   have H := H1
   clear H1
   by_cases c19 : (a3.size : Int) > 65000
   ·rw [if_pos c19] at H
    have c19b0 : decide (65000 < (a3.size : Int)) = true := decide_eq_true c19
    have c19b1 : decide (65000 < a3.size) = true := decide_eq_true (by omega)
    clear c19
    simp only [Option.some.injEq, Prod.mk.injEq] at H
    obtain ⟨rfl, rfl, rfl, rfl, rfl, rfl, rfl, rfl, rfl, rfl⟩ := H
    go_wp2_with (first | ((with_reducible refine gate_store (t := 30) (p := 8) rfl ?_); refine store_rowev_9 gb464 (.bool false) (.int .u64 0) (.int .u64 0) (.bool false) (.int .u64 0) (.int .u64 0) (.int .i64 0) (.int .i64 0) (.string (⟨#[]⟩ : ByteArray)) rfl (t := 30) (p := 8) (v := _) rfl rfl rfl rfl (t' := 30) (kb BK464.out) (by rfl) (by kernel_rfl) (by rfl) ?_))
    refine bodyPost_ret (results_ct rfl _ _ gb464 30 #[.bool false, .int .u64 0, .int .u64 0, .bool false, .int .u64 0, .int .u64 0, .int .i64 0, .int .i64 0, .string (⟨#[]⟩ : ByteArray)] (0, 0) _ rfl (by refine kb ?_; exact blk_all_9 (kb BK464.out) (by rfl)) Tryd.underlying30 rfl (by kernel_rfl)) rfl ?_
    exact ⟨kE, by exact kB3 HB.out GE462.out GE463.out GE464.out⟩
   rw [if_neg c19] at H
   have c19b0 : decide (65000 < (a3.size : Int)) = false := decide_eq_false c19
   have c19b1 : decide (65000 < a3.size) = false := decide_eq_false (by omega)
   clear c19
   replace H := Option.bind_eq_some_iff.mp H
   obtain ⟨t466, A200, H⟩ := H
   replace H : (if 4 + t466.size ≤ 9223372036854775807 then (if ((⟨#[8, 0, 0, 0]⟩ : ByteArray) ++ t466).size + 1 ≤ 9223372036854775807 then (if (((⟨#[8, 0, 0, 0]⟩ : ByteArray) ++ t466) ++ (⟨#[0]⟩ : ByteArray)).size + a3.size ≤ 9223372036854775807 then ((udp_Encode.f kj6 b0 b1 b2 d0 d1 d2 49152 4789 ((((⟨#[8, 0, 0, 0]⟩ : ByteArray) ++ t466) ++ (⟨#[0]⟩ : ByteArray)) ++ a3)).bind fun bt467 => (if bt467.2 = 0 then ((tunnel_wrapped.f b0 b1 b2 d0 d1 d2 17 bt467.1).bind fun bt469 => (some (bt469.1, bt469.2.1, bt469.2.2.1, bt469.2.2.2.1, bt469.2.2.2.2.1, bt469.2.2.2.2.2.1, bt469.2.2.2.2.2.2.1, bt469.2.2.2.2.2.2.2.1, bt469.2.2.2.2.2.2.2.2.1, bt469.2.2.2.2.2.2.2.2.2))) else (some (false, 0, 0, false, 0, 0, 0, 0, (⟨#[]⟩ : ByteArray), bt467.2)))) else (none)) else (none)) else (none)) = some (r1, r2, r3, r4, r5, r6, r7, r8, r9, r10) := H
   have A20 := As A200
   clear A200
   by_cases c21 : 4 + t466.size ≤ 9223372036854775807
   ·rw [if_pos c21] at H
    have c21b0 := eq_true c21
    have c21b1 : decide (4 + t466.size ≤ 9223372036854775807) = true := decide_eq_true c21
    try have c21b2 : (9223372036854775807 < 4 + t466.size) = False := eq_false (Nat.not_lt.2 c21)
    by_cases c22 : ((⟨#[8, 0, 0, 0]⟩ : ByteArray) ++ t466).size + 1 ≤ 9223372036854775807
    ·rw [if_pos c22] at H
     have c22b0 := eq_true c22
     have c22b1 : decide (((⟨#[8, 0, 0, 0]⟩ : ByteArray) ++ t466).size + 1 ≤ 9223372036854775807) = true := decide_eq_true c22
     (try (have c22s0 : (9223372036854775807 < (4 + t466.size) + 1) = False := by have h_ := c22; have z0_ : (⟨#[8, 0, 0, 0]⟩ : ByteArray).size = 4 := rfl; simp only [ByteArray.size_append, ByteArray.size_extract] at h_; exact eq_false (by first | omega | (omega))))
     (try (have c22s1 : (9223372036854775807 < 4 + t466.size + 1) = False := by have h_ := c22; have z0_ : (⟨#[8, 0, 0, 0]⟩ : ByteArray).size = 4 := rfl; simp only [ByteArray.size_append, ByteArray.size_extract] at h_; exact eq_false (by first | omega | (omega))))
     (try (have c22s2 : ((4 + t466.size) + 1 ≤ 9223372036854775807) = True := by have h_ := c22; simp only [ByteArray.size_append, Int.natCast_add, Int.toNat_natCast] at h_; first | exact eq_true h_ | exact eq_true (by omega)))
     (try (have c22s3 : decide ((4 + t466.size) + 1 ≤ 9223372036854775807) = true := by have h_ := c22; first | (simp only [ByteArray.size_append, Int.toNat_natCast] at h_; first | exact beq_iff_eq.mpr h_ | exact beq_eq_false_iff_ne.mpr h_ | exact bne_iff_ne.mpr h_ | exact bne_eq_false_iff_eq.mpr h_ | (rw [beq_iff_eq.mpr h_]; rfl) | (rw [beq_eq_false_iff_ne.mpr h_]; rfl)) | (simp only [ByteArray.size_append, Int.natCast_add, Int.toNat_natCast] at h_ ⊢; first | exact h_ | simpa using h_ | simp [h_] | omega) | (simp only [ByteArray.size_append] at h_; simp at h_ ⊢; omega) | (simp only [ByteArray.size_append, Int.natCast_add, Int.toNat_natCast] at h_; simpa using h_)))
     try have c22b2 : (9223372036854775807 < ((⟨#[8, 0, 0, 0]⟩ : ByteArray) ++ t466).size + 1) = False := eq_false (Nat.not_lt.2 c22)
     by_cases c23 : (((⟨#[8, 0, 0, 0]⟩ : ByteArray) ++ t466) ++ (⟨#[0]⟩ : ByteArray)).size + a3.size ≤ 9223372036854775807
     ·rw [if_pos c23] at H
      have c23b0 := eq_true c23
      have c23b1 : decide ((((⟨#[8, 0, 0, 0]⟩ : ByteArray) ++ t466) ++ (⟨#[0]⟩ : ByteArray)).size + a3.size ≤ 9223372036854775807) = true := decide_eq_true c23
      (try (have c23s0 : (9223372036854775807 < 4 + t466.size + 1 + a3.size) = False := by have h_ := c23; have z0_ : (⟨#[0]⟩ : ByteArray).size = 1 := rfl; have z1_ : (⟨#[8, 0, 0, 0]⟩ : ByteArray).size = 4 := rfl; simp only [ByteArray.size_append, ByteArray.size_extract] at h_; exact eq_false (by first | omega | (omega))))
      (try (have c23s1 : (9223372036854775807 < (4 + t466.size + 1) + a3.size) = False := by have h_ := c23; have z0_ : (⟨#[0]⟩ : ByteArray).size = 1 := rfl; have z1_ : (⟨#[8, 0, 0, 0]⟩ : ByteArray).size = 4 := rfl; simp only [ByteArray.size_append, ByteArray.size_extract] at h_; exact eq_false (by first | omega | (omega))))
      (try (have c23s2 : ((4 + t466.size + 1) + a3.size ≤ 9223372036854775807) = True := by have h_ := c23; simp only [ByteArray.size_append, Int.natCast_add, Int.toNat_natCast] at h_; first | exact eq_true h_ | exact eq_true (by omega)))
      (try (have c23s3 : decide ((4 + t466.size + 1) + a3.size ≤ 9223372036854775807) = true := by have h_ := c23; first | (simp only [ByteArray.size_append, Int.toNat_natCast] at h_; first | exact beq_iff_eq.mpr h_ | exact beq_eq_false_iff_ne.mpr h_ | exact bne_iff_ne.mpr h_ | exact bne_eq_false_iff_eq.mpr h_ | (rw [beq_iff_eq.mpr h_]; rfl) | (rw [beq_eq_false_iff_ne.mpr h_]; rfl)) | (simp only [ByteArray.size_append, Int.natCast_add, Int.toNat_natCast] at h_ ⊢; first | exact h_ | simpa using h_ | simp [h_] | omega) | (simp only [ByteArray.size_append] at h_; simp at h_ ⊢; omega) | (simp only [ByteArray.size_append, Int.natCast_add, Int.toNat_natCast] at h_; simpa using h_)))
      try have c23b2 : (9223372036854775807 < (((⟨#[8, 0, 0, 0]⟩ : ByteArray) ++ t466) ++ (⟨#[0]⟩ : ByteArray)).size + a3.size) = False := eq_false (Nat.not_lt.2 c23)
      replace H := Option.bind_eq_some_iff.mp H
      obtain ⟨⟨t467, t468⟩, A240, H⟩ := H
      replace H : (if t468 = 0 then ((tunnel_wrapped.f b0 b1 b2 d0 d1 d2 17 t467).bind fun bt469 => (some (bt469.1, bt469.2.1, bt469.2.2.1, bt469.2.2.2.1, bt469.2.2.2.2.1, bt469.2.2.2.2.2.1, bt469.2.2.2.2.2.2.1, bt469.2.2.2.2.2.2.2.1, bt469.2.2.2.2.2.2.2.2.1, bt469.2.2.2.2.2.2.2.2.2))) else (some (false, 0, 0, false, 0, 0, 0, 0, (⟨#[]⟩ : ByteArray), t468))) = some (r1, r2, r3, r4, r5, r6, r7, r8, r9, r10) := H
      have A24 := As A240
      clear A240
      by_cases c25 : t468 = 0
      ·rw [if_pos c25] at H
       have c25b0 : (t468 == 0) = true := beq_iff_eq.mpr c25
       have c25b1 : (t468 != 0) = false := bne_eq_false_iff_eq.mpr c25
       clear c25
       replace H := Option.bind_eq_some_iff.mp H
       obtain ⟨⟨t469, t470, t471, t472, t473, t474, t475, t476, t477, t478⟩, A260, H⟩ := H
       replace H : (some (t469, t470, t471, t472, t473, t474, t475, t476, t477, t478)) = some (r1, r2, r3, r4, r5, r6, r7, r8, r9, r10) := H
       have A26 := As A260
       clear A260
       simp only [Option.some.injEq, Prod.mk.injEq] at H
       obtain ⟨rfl, rfl, rfl, rfl, rfl, rfl, rfl, rfl, rfl, rfl⟩ := H
       try go_wp2
       replace BK462 := As (blk_drew BK462.out)
       replace BK463 := As (blk_drew BK463.out)
       replace BK464 := As (blk_drew BK464.out)
       replace HB := As (below_drew1 HB.out)
       refine start_ (n := 15) (S := fun w' => w'.cell? ⟨gb462, 0, none⟩ = some (.bool b0) ∧ w'.cell? ⟨gb462, 1, none⟩ = some (.int .u64 b1) ∧ w'.cell? ⟨gb462, 2, none⟩ = some (.int .u64 b2) ∧ w'.cell? ⟨gb463, 0, none⟩ = some (.bool d0) ∧ w'.cell? ⟨gb463, 1, none⟩ = some (.int .u64 d1) ∧ w'.cell? ⟨gb463, 2, none⟩ = some (.int .u64 d2)) (ds := []) #[O, O, O, O, O, O, O, O, O, O, O, O, O, O, O] (by kernel_rfl) rfl rfl ⟨kC BK462.out 0, kC BK462.out 1, kC BK462.out 2, kC BK463.out 0, kC BK463.out 1, kC BK463.out 2⟩ (fun hHeld => ?_); refine with_tabW tunnel_WrapVxlan.tab7 tunnel_WrapVxlan.bits7 (fun HT_ HW_ => ?_)
       generalize wc.drew = w27 at BK462 BK463 BK464 HB hHeld ⊢
       refine kP 2 31 #[O, O, I, O, O, O, O, O, O, O, O, O, O, O, O] ?_ (any_of HT_.out (by kernel_rfl))
       refine kP 6 35 #[O, O, I, O, O, O, I, O, O, O, O, O, O, O, O] ?_ (any_of HT_.out (by kernel_rfl))
       refine take_ (i := 0) (N := some 29) (v := ?_) (a' := ?_) #[I, O, I, O, O, O, I, O, O, O, O, O, O, O, O] rfl rfl (take_ofW HT_.out HW_.out (by kernel_rfl)) (fun _ _ _ h => h) (Or.inl ⟨by rfl, ?_⟩) hHeld ?_ ?_
       rotate_left
       ·rintro w' ⟨s0, s1, s2, s3, s4, s5⟩
        go_simp
        with_reducible rfl
       rotate_left
       ·simp only [Act.put, sA, sZ, sS, i64_w, i32_w]
        rfl
       refine take_ (i := 1) (N := some 30) (v := ?_) (a' := ?_) #[I, I, I, O, O, O, I, O, O, O, O, O, O, O, O] rfl rfl (take_ofW HT_.out HW_.out (by kernel_rfl)) (fun _ _ _ h => h) (Or.inl ⟨by rfl, ?_⟩) hHeld ?_ ?_
       rotate_left
       ·rintro w' ⟨s0, s1, s2, s3, s4, s5⟩
        go_simp
        with_reducible rfl
       rotate_left
       ·simp only [Act.put, sA, sZ, sS, i64_w, i32_w]
        rfl
       refine one_ (i := 3) (N := some 32) #[I, I, I, I, O, O, I, O, O, O, O, O, O, O, O] rfl rfl (one_of HT_.out (by kernel_rfl)) (by decide) (fun K hK => ?_)
       refine goes_ Tryd.func27 (by kernel_rfl) rfl #[.int .i64 a2, .int .i64 3] (by rfl) rfl rfl kA ?_
       with_reducible refine (field_Put.calls kj6 a2 3 t466 _ A20.out).mono ?_
       rintro e w28 ⟨rfl, hb⟩
       refine ⟨_, rfl, ?_⟩
       replace BK462 := As (blk_below (kb BK462.out) hb)
       replace BK463 := As (blk_below (kb BK463.out) hb)
       replace BK464 := As (blk_below (kb BK464.out) hb)
       replace HB := As (below_step (kB3 HB.out GE462.out GE463.out GE464.out) hb)
       (try clear hb)
       (try clear hb2)
       (try clear hk)
       (try clear hi)
       refine hK.out _ _ ⟨kC BK462.out 0, kC BK462.out 1, kC BK462.out 2, kC BK463.out 0, kC BK463.out 1, kC BK463.out 2⟩ (fun hHeld => ?_)
       clear hK K
       refine norm_ (a' := ?_) ?_ ?_
       rotate_left
       ·show Act.put _ (some 32) _ = _
        simp only [Act.put, sA, sZ, sS, i64_w, i32_w]
        rfl
       refine kP 4 33 #[I, I, I, I, I, O, I, O, O, O, O, O, O, O, O] ?_ (any_of HT_.out (by kernel_rfl))
       refine kP 5 34 #[I, I, I, I, I, I, I, O, O, O, O, O, O, O, O] ?_ (any_of HT_.out (by kernel_rfl))
       refine kP 7 36 #[I, I, I, I, I, I, I, I, O, O, O, O, O, O, O] ?_ (any_of HT_.out (by kernel_rfl))
       refine kP 8 37 #[I, I, I, I, I, I, I, I, I, O, O, O, O, O, O] ?_ (any_of HT_.out (by kernel_rfl))
       refine one_ (i := 9) (N := some 38) #[I, I, I, I, I, I, I, I, I, I, O, O, O, O, O] rfl rfl (one_of HT_.out (by kernel_rfl)) (by decide) (fun K hK => ?_)
       refine goes_ Tryd.func51 (by kernel_rfl) rfl #[.agg #[.bool b0, .int .u64 b1, .int .u64 b2], .agg #[.bool d0, .int .u64 d1, .int .u64 d2], .agg #[.int .i64 49152, .int .i64 4789, .string ((((⟨#[8, 0, 0, 0]⟩ : ByteArray) ++ t466) ++ (⟨#[0]⟩ : ByteArray)) ++ a3)]] (by rfl) rfl rfl kA ?_
       with_reducible refine (udp_Encode.calls kj6 b0 b1 b2 d0 d1 d2 49152 4789 ((((⟨#[8, 0, 0, 0]⟩ : ByteArray) ++ t466) ++ (⟨#[0]⟩ : ByteArray)) ++ a3) t467 t468 _ ?side1 A24.out).mono ?_
       (case side1 => exact laid_below HLD.out (kB3 HB.out GE462.out GE463.out GE464.out))
       rintro e w29 ⟨rfl, hb⟩
       refine ⟨_, rfl, ?_⟩
       replace BK462 := As (blk_below (kb BK462.out) hb)
       replace BK463 := As (blk_below (kb BK463.out) hb)
       replace BK464 := As (blk_below (kb BK464.out) hb)
       replace HB := As (below_step (kB3 HB.out GE462.out GE463.out GE464.out) hb)
       (try clear hb)
       (try clear hb2)
       (try clear hk)
       (try clear hi)
       refine hK.out _ _ ⟨kC BK462.out 0, kC BK462.out 1, kC BK462.out 2, kC BK463.out 0, kC BK463.out 1, kC BK463.out 2⟩ (fun hHeld => ?_)
       clear hK K
       refine norm_ (a' := ?_) ?_ ?_
       rotate_left
       ·show Act.put _ (some 38) _ = _
        simp only [Act.put, sA, sZ, sS, i64_w, i32_w]
        rfl
       refine kP 10 28 #[I, I, I, I, I, I, I, I, I, I, I, O, O, O, O] ?_ (any_of HT_.out (by kernel_rfl))
       refine kP 11 39 #[I, I, I, I, I, I, I, I, I, I, I, I, O, O, O] ?_ (any_of HT_.out (by kernel_rfl))
       refine kP 12 40 #[I, I, I, I, I, I, I, I, I, I, I, I, I, O, O] ?_ (any_of HT_.out (by kernel_rfl))
       refine kP 13 10 #[I, I, I, I, I, I, I, I, I, I, I, I, I, I, O] ?_ (any_of HT_.out (by kernel_rfl))
       refine kP 14 11 #[I, I, I, I, I, I, I, I, I, I, I, I, I, I, I] ?_ (any_of HT_.out (by kernel_rfl))
       refine done_ (done_of HT_.out (by kernel_rfl)) ?_
       have hnb30 := NB462_463.out
       have hnc30 := NB463_462.out
       have hnb31 := NB462_464.out
       have hnc31 := NB464_462.out
       have hcz32_0 := cells_3 BK462.out
       have hfz32_0 := fun j_ => blk_frozen BK462.out j_
       have hnb33 := NB463_464.out
       have hnc33 := NB464_463.out
       have hcz34_0 := cells_3 BK463.out
       have hfz34_0 := fun j_ => blk_frozen BK463.out j_
       try go_wp2_with (first | ((with_reducible refine gate_callee (f := 28) rfl ?_); refine goesL_ (some 48) rfl rfl Tryd.func28 (by kernel_rfl) rfl #[.agg #[.bool b0, .int .u64 b1, .int .u64 b2], .agg #[.bool d0, .int .u64 d1, .int .u64 d2], .int .i64 17, .string t467] rfl kA ?_; (with_reducible refine (tunnel_wrapped.calls b0 b1 b2 d0 d1 d2 17 t467 t469 t470 t471 t472 t473 t474 t475 t476 t477 t478 _ A26.out).mono ?_); rintro e w35 ⟨rfl, hb⟩; refine ⟨_, rfl, ?_⟩; replace BK462 := As (blk_below (kb BK462.out) hb); replace BK463 := As (blk_below (kb BK463.out) hb); replace BK464 := As (blk_below (kb BK464.out) hb); replace HB := As (below_step (kB3 HB.out GE462.out GE463.out GE464.out) hb); (try clear hb)) | ((with_reducible refine gate_store (t := 30) (p := 8) rfl ?_); refine store_rowev_9 gb464 (.bool t469) (.int .u64 t470) (.int .u64 t471) (.bool t472) (.int .u64 t473) (.int .u64 t474) (.int .i64 t475) (.int .i64 t476) (.string t477) rfl (t := 30) (p := 8) (v := _) rfl rfl rfl rfl (t' := 30) (kb BK464.out) (by rfl) (by kernel_rfl) (by rfl) ?_))
       refine bodyPost_ret (results_ct rfl _ _ gb464 30 #[.bool t469, .int .u64 t470, .int .u64 t471, .bool t472, .int .u64 t473, .int .u64 t474, .int .i64 t475, .int .i64 t476, .string t477] (0, 0) _ rfl (by refine kb ?_; exact blk_all_9 (kb BK464.out) (by rfl)) Tryd.underlying30 rfl (by kernel_rfl)) rfl ?_
       exact ⟨kE, by exact kB3 HB.out GE462.out GE463.out GE464.out⟩
      rw [if_neg c25] at H
      have c25b0 : (t468 == 0) = false := beq_eq_false_iff_ne.mpr c25
      have c25b1 : (t468 != 0) = true := bne_iff_ne.mpr c25
      simp only [Option.some.injEq, Prod.mk.injEq] at H
      obtain ⟨rfl, rfl, rfl, rfl, rfl, rfl, rfl, rfl, rfl, rfl⟩ := H
      try go_wp2
      replace BK462 := As (blk_drew BK462.out)
      replace BK463 := As (blk_drew BK463.out)
      replace BK464 := As (blk_drew BK464.out)
      replace HB := As (below_drew1 HB.out)
      refine start_ (n := 15) (S := fun w' => w'.cell? ⟨gb462, 0, none⟩ = some (.bool b0) ∧ w'.cell? ⟨gb462, 1, none⟩ = some (.int .u64 b1) ∧ w'.cell? ⟨gb462, 2, none⟩ = some (.int .u64 b2) ∧ w'.cell? ⟨gb463, 0, none⟩ = some (.bool d0) ∧ w'.cell? ⟨gb463, 1, none⟩ = some (.int .u64 d1) ∧ w'.cell? ⟨gb463, 2, none⟩ = some (.int .u64 d2)) (ds := []) #[O, O, O, O, O, O, O, O, O, O, O, O, O, O, O] (by kernel_rfl) rfl rfl ⟨kC BK462.out 0, kC BK462.out 1, kC BK462.out 2, kC BK463.out 0, kC BK463.out 1, kC BK463.out 2⟩ (fun hHeld => ?_); refine with_tabW tunnel_WrapVxlan.tab7 tunnel_WrapVxlan.bits7 (fun HT_ HW_ => ?_)
      generalize wc.drew = w36 at BK462 BK463 BK464 HB hHeld ⊢
      refine kP 2 31 #[O, O, I, O, O, O, O, O, O, O, O, O, O, O, O] ?_ (any_of HT_.out (by kernel_rfl))
      refine kP 6 35 #[O, O, I, O, O, O, I, O, O, O, O, O, O, O, O] ?_ (any_of HT_.out (by kernel_rfl))
      refine take_ (i := 0) (N := some 29) (v := ?_) (a' := ?_) #[I, O, I, O, O, O, I, O, O, O, O, O, O, O, O] rfl rfl (take_ofW HT_.out HW_.out (by kernel_rfl)) (fun _ _ _ h => h) (Or.inl ⟨by rfl, ?_⟩) hHeld ?_ ?_
      rotate_left
      ·rintro w' ⟨s0, s1, s2, s3, s4, s5⟩
       go_simp
       with_reducible rfl
      rotate_left
      ·simp only [Act.put, sA, sZ, sS, i64_w, i32_w]
       rfl
      refine take_ (i := 1) (N := some 30) (v := ?_) (a' := ?_) #[I, I, I, O, O, O, I, O, O, O, O, O, O, O, O] rfl rfl (take_ofW HT_.out HW_.out (by kernel_rfl)) (fun _ _ _ h => h) (Or.inl ⟨by rfl, ?_⟩) hHeld ?_ ?_
      rotate_left
      ·rintro w' ⟨s0, s1, s2, s3, s4, s5⟩
       go_simp
       with_reducible rfl
      rotate_left
      ·simp only [Act.put, sA, sZ, sS, i64_w, i32_w]
       rfl
      refine one_ (i := 3) (N := some 32) #[I, I, I, I, O, O, I, O, O, O, O, O, O, O, O] rfl rfl (one_of HT_.out (by kernel_rfl)) (by decide) (fun K hK => ?_)
      refine goes_ Tryd.func27 (by kernel_rfl) rfl #[.int .i64 a2, .int .i64 3] (by rfl) rfl rfl kA ?_
      with_reducible refine (field_Put.calls kj6 a2 3 t466 _ A20.out).mono ?_
      rintro e w37 ⟨rfl, hb⟩
      refine ⟨_, rfl, ?_⟩
      replace BK462 := As (blk_below (kb BK462.out) hb)
      replace BK463 := As (blk_below (kb BK463.out) hb)
      replace BK464 := As (blk_below (kb BK464.out) hb)
      replace HB := As (below_step (kB3 HB.out GE462.out GE463.out GE464.out) hb)
      (try clear hb)
      (try clear hb2)
      (try clear hk)
      (try clear hi)
      refine hK.out _ _ ⟨kC BK462.out 0, kC BK462.out 1, kC BK462.out 2, kC BK463.out 0, kC BK463.out 1, kC BK463.out 2⟩ (fun hHeld => ?_)
      clear hK K
      refine norm_ (a' := ?_) ?_ ?_
      rotate_left
      ·show Act.put _ (some 32) _ = _
       simp only [Act.put, sA, sZ, sS, i64_w, i32_w]
       rfl
      refine kP 4 33 #[I, I, I, I, I, O, I, O, O, O, O, O, O, O, O] ?_ (any_of HT_.out (by kernel_rfl))
      refine kP 5 34 #[I, I, I, I, I, I, I, O, O, O, O, O, O, O, O] ?_ (any_of HT_.out (by kernel_rfl))
      refine kP 7 36 #[I, I, I, I, I, I, I, I, O, O, O, O, O, O, O] ?_ (any_of HT_.out (by kernel_rfl))
      refine kP 8 37 #[I, I, I, I, I, I, I, I, I, O, O, O, O, O, O] ?_ (any_of HT_.out (by kernel_rfl))
      refine one_ (i := 9) (N := some 38) #[I, I, I, I, I, I, I, I, I, I, O, O, O, O, O] rfl rfl (one_of HT_.out (by kernel_rfl)) (by decide) (fun K hK => ?_)
      refine goes_ Tryd.func51 (by kernel_rfl) rfl #[.agg #[.bool b0, .int .u64 b1, .int .u64 b2], .agg #[.bool d0, .int .u64 d1, .int .u64 d2], .agg #[.int .i64 49152, .int .i64 4789, .string ((((⟨#[8, 0, 0, 0]⟩ : ByteArray) ++ t466) ++ (⟨#[0]⟩ : ByteArray)) ++ a3)]] (by rfl) rfl rfl kA ?_
      with_reducible refine (udp_Encode.calls kj6 b0 b1 b2 d0 d1 d2 49152 4789 ((((⟨#[8, 0, 0, 0]⟩ : ByteArray) ++ t466) ++ (⟨#[0]⟩ : ByteArray)) ++ a3) t467 t468 _ ?side1 A24.out).mono ?_
      (case side1 => exact laid_below HLD.out (kB3 HB.out GE462.out GE463.out GE464.out))
      rintro e w38 ⟨rfl, hb⟩
      refine ⟨_, rfl, ?_⟩
      replace BK462 := As (blk_below (kb BK462.out) hb)
      replace BK463 := As (blk_below (kb BK463.out) hb)
      replace BK464 := As (blk_below (kb BK464.out) hb)
      replace HB := As (below_step (kB3 HB.out GE462.out GE463.out GE464.out) hb)
      (try clear hb)
      (try clear hb2)
      (try clear hk)
      (try clear hi)
      refine hK.out _ _ ⟨kC BK462.out 0, kC BK462.out 1, kC BK462.out 2, kC BK463.out 0, kC BK463.out 1, kC BK463.out 2⟩ (fun hHeld => ?_)
      clear hK K
      refine norm_ (a' := ?_) ?_ ?_
      rotate_left
      ·show Act.put _ (some 38) _ = _
       simp only [Act.put, sA, sZ, sS, i64_w, i32_w]
       rfl
      refine kP 10 28 #[I, I, I, I, I, I, I, I, I, I, I, O, O, O, O] ?_ (any_of HT_.out (by kernel_rfl))
      refine kP 11 39 #[I, I, I, I, I, I, I, I, I, I, I, I, O, O, O] ?_ (any_of HT_.out (by kernel_rfl))
      refine kP 12 40 #[I, I, I, I, I, I, I, I, I, I, I, I, I, O, O] ?_ (any_of HT_.out (by kernel_rfl))
      refine kP 13 10 #[I, I, I, I, I, I, I, I, I, I, I, I, I, I, O] ?_ (any_of HT_.out (by kernel_rfl))
      refine kP 14 11 #[I, I, I, I, I, I, I, I, I, I, I, I, I, I, I] ?_ (any_of HT_.out (by kernel_rfl))
      refine done_ (done_of HT_.out (by kernel_rfl)) ?_
      try go_wp2_with (first | ((with_reducible refine gate_store (t := 30) (p := 8) rfl ?_); refine store_rowev_9 gb464 (.bool false) (.int .u64 0) (.int .u64 0) (.bool false) (.int .u64 0) (.int .u64 0) (.int .i64 0) (.int .i64 0) (.string (⟨#[]⟩ : ByteArray)) rfl (t := 30) (p := 8) (v := _) rfl rfl rfl rfl (t' := 30) (kb BK464.out) (by rfl) (by kernel_rfl) (by rfl) ?_))
      refine bodyPost_ret (results_ct rfl _ _ gb464 30 #[.bool false, .int .u64 0, .int .u64 0, .bool false, .int .u64 0, .int .u64 0, .int .i64 0, .int .i64 0, .string (⟨#[]⟩ : ByteArray)] (0, 0) _ rfl (by refine kb ?_; exact blk_all_9 (kb BK464.out) (by rfl)) Tryd.underlying30 rfl (by kernel_rfl)) rfl ?_
      exact ⟨kE, by exact kB3 HB.out GE462.out GE463.out GE464.out⟩
     rw [if_neg c23] at H
     exact absurd H (by simp)
    rw [if_neg c22] at H
    exact absurd H (by simp)
   rw [if_neg c21] at H
   exact absurd H (by simp)
 replace c6 := Bool.eq_false_iff.mpr c6
 subst c6
 have H1 : (some (false, 0, 0, false, 0, 0, 0, 0, (⟨#[]⟩ : ByteArray), 13)) = some (r1, r2, r3, r4, r5, r6, r7, r8, r9, r10) := by rw [if_neg (show ¬ (false = true) by decide)] at H; exact H
 clear H
 have H := H1
 clear H1
 simp only [Option.some.injEq, Prod.mk.injEq] at H
 obtain ⟨rfl, rfl, rfl, rfl, rfl, rfl, rfl, rfl, rfl, rfl⟩ := H
 go_enter Tryd.func24, Tryd.ntmps24
 go_wp2_with (first | ((with_reducible refine gate_dst (N := 4) rfl ?_); refine box_event rfl (N := 4) rfl (cs := #[.bool b0, .int .u64 b1, .int .u64 b2]) (t := 24) kG ?_; intro gb462 hg w39 hbox hb; have BK462 := As (hbox); have GW462 := As ((by rw [hg]; exact (below_size (kB HB.out)) : w.heap.size ≤ gb462)); have GE462 := As ((by rw [hg]; exact (below_size (kB HB.out)) : w.heap.size ≤ gb462)); replace HB := As (below_step (kB HB.out) hb); clear hb hbox hg) | ((with_reducible refine gate_dst (N := 5) rfl ?_); refine box_event rfl (N := 5) rfl (cs := #[.bool d0, .int .u64 d1, .int .u64 d2]) (t := 24) kG ?_; intro gb463 hg w40 hbox hb; have BK463 := As (hbox); have GW463 := As ((by rw [hg]; exact (below_size (kB1 HB.out GE462.out)) : w.heap.size ≤ gb463)); have GE463 := As ((by rw [hg]; exact (below_size (kB1 HB.out GE462.out)) : w.heap.size ≤ gb463)); replace HB := As (below_step (kB1 HB.out GE462.out) hb); have NB462_463 := As ((by rw [hg]; exact Nat.ne_of_lt (blk_lt (kb BK462.out)) : gb462 ≠ gb463)); have NB463_462 := As ((by rw [hg]; exact Nat.ne_of_gt (blk_lt (kb BK462.out)) : gb463 ≠ gb462)); replace BK462 := As (blk_below (kb BK462.out) hb); clear hb hbox hg) | ((with_reducible refine gate_dst (N := 8) rfl ?_); refine box_event rfl (N := 8) rfl (cs := #[.bool false, .int .u64 0, .int .u64 0, .bool false, .int .u64 0, .int .u64 0, .int .i64 0, .int .i64 0, .string (⟨#[]⟩ : ByteArray)]) (t := 30) kG ?_; intro gb464 hg w41 hbox hb; have BK464 := As (hbox); have GW464 := As ((by rw [hg]; exact (below_size (kB2 HB.out GE462.out GE463.out)) : w.heap.size ≤ gb464)); have GE464 := As ((by rw [hg]; exact (below_size (kB2 HB.out GE462.out GE463.out)) : w.heap.size ≤ gb464)); replace HB := As (below_step (kB2 HB.out GE462.out GE463.out) hb); have NB462_464 := As ((by rw [hg]; exact Nat.ne_of_lt (blk_lt (kb BK462.out)) : gb462 ≠ gb464)); have NB464_462 := As ((by rw [hg]; exact Nat.ne_of_gt (blk_lt (kb BK462.out)) : gb464 ≠ gb462)); replace BK462 := As (blk_below (kb BK462.out) hb); have NB463_464 := As ((by rw [hg]; exact Nat.ne_of_lt (blk_lt (kb BK463.out)) : gb463 ≠ gb464)); have NB464_463 := As ((by rw [hg]; exact Nat.ne_of_gt (blk_lt (kb BK463.out)) : gb464 ≠ gb463)); replace BK463 := As (blk_below (kb BK463.out) hb); clear hb hbox hg; have hnb42 := NB462_463.out; have hnc42 := NB463_462.out; have hnb43 := NB462_464.out; have hnc43 := NB464_462.out; have hcz44_0 := cells_3 BK462.out; have hfz44_0 := fun j_ => blk_frozen BK462.out j_; have hnb45 := NB463_464.out; have hnc45 := NB464_463.out; have hcz46_0 := cells_3 BK463.out; have hfz46_0 := fun j_ => blk_frozen BK463.out j_) | ((with_reducible refine gate_callee (f := 26) rfl ?_); refine goesL_ (some 14) rfl rfl Tryd.func26 (by kernel_rfl) rfl #[.agg #[.bool b0, .int .u64 b1, .int .u64 b2], .agg #[.bool d0, .int .u64 d1, .int .u64 d2]] rfl kA ?_; (with_reducible refine (tunnel_related.calls b0 b1 b2 d0 d1 d2 false _ A5.out).mono ?_); rintro e w47 ⟨rfl, hb⟩; refine ⟨_, rfl, ?_⟩; replace BK462 := As (blk_below (kb BK462.out) hb); replace BK463 := As (blk_below (kb BK463.out) hb); replace BK464 := As (blk_below (kb BK464.out) hb); replace HB := As (below_step (kB3 HB.out GE462.out GE463.out GE464.out) hb); (try clear hb)) | ((with_reducible refine gate_store (t := 30) (p := 8) rfl ?_); refine store_rowev_9 gb464 (.bool false) (.int .u64 0) (.int .u64 0) (.bool false) (.int .u64 0) (.int .u64 0) (.int .i64 0) (.int .i64 0) (.string (⟨#[]⟩ : ByteArray)) rfl (t := 30) (p := 8) (v := _) rfl rfl rfl rfl (t' := 30) (kb BK464.out) (by rfl) (by kernel_rfl) (by rfl) ?_))
 refine bodyPost_ret (results_ct rfl _ _ gb464 30 #[.bool false, .int .u64 0, .int .u64 0, .bool false, .int .u64 0, .int .u64 0, .int .i64 0, .int .i64 0, .string (⟨#[]⟩ : ByteArray)] (0, 0) _ rfl (by refine kb ?_; exact blk_all_9 (kb BK464.out) (by rfl)) Tryd.underlying30 rfl (by kernel_rfl)) rfl ?_
 exact ⟨kE, by exact kB3 HB.out GE462.out GE463.out GE464.out⟩

end Go.Proofs.YtocobalkikkhlaaDoor.X
-- short
