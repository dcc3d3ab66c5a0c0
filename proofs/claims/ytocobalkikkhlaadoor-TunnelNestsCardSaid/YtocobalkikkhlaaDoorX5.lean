/- Functions and their walks, printed by xprint.py. -/
import Derived.Test.YtocobalkikkhlaaDoorX0
import Derived.Test.YtocobalkikkhlaaDoorX4
namespace Go.Proofs.YtocobalkikkhlaaDoor.X
open Go.RowKit Go.Proofs.YtocobalkikkhlaaDoorW.PrintWords Go.Proofs.YtocobalkikkhlaaDoorW.PrintLast Go.Proofs.YtocobalkikkhlaaDoorW.PrintMore
attribute [local go_sem] max2_int min2_int max_two min_two max_three min_three max_four min_four   -- for this text's walks alone
set_option linter.unusedVariables false
set_option linter.unusedSimpArgs false

/-! ### tunnel_WrapGre: function 12 -/
def tunnel_WrapGre.j0 : Nat → Int → ByteArray → Int → Bool → Bool → Bool → Int → Int → Bool → Int → Int → Option (Bool × Int × Int × Bool × Int × Int × Int × Int × ByteArray × Int)
 | 0, _, _, _, _, _, _, _, _, _, _, _ => none
 | k + 1, x2, x3, x4, x5, x28, x117000, x117001, x117002, x118000, x118001, x118002 => if x28 = true then (some (false, 0, 0, false, 0, 0, 0, 0, (⟨#[]⟩ : ByteArray), 4)) else (if 0 ≤ x2 then (if x2 < 4 then ((field_Put.f k (wrap64 (x4)) 4).bind fun t120 => (if t120.size + x3.size ≤ 9223372036854775807 then (if x5 = true then ((field_Put.f k 40960 2).bind fun t133 => ((field_Put.f k (rd ([0, 2048, 34525, 25944] : List Int) x2) 2).bind fun t134 => (if t133.size + t134.size ≤ 9223372036854775807 then (if (t133 ++ t134).size + 4 ≤ 9223372036854775807 then (if ((t133 ++ t134) ++ (⟨#[0, 0, 0, 0]⟩ : ByteArray)).size + (t120 ++ x3).size ≤ 9223372036854775807 then ((checksum_Sum.f k (((t133 ++ t134) ++ (⟨#[0, 0, 0, 0]⟩ : ByteArray)) ++ (t120 ++ x3))).bind fun t135 => ((field_Put.f k t135 2).bind fun t136 => (if (t133 ++ t134).size + t136.size ≤ 9223372036854775807 then (if ((t133 ++ t134) ++ t136).size + 2 ≤ 9223372036854775807 then (if (((t133 ++ t134) ++ t136) ++ (⟨#[0, 0]⟩ : ByteArray)).size + (t120 ++ x3).size ≤ 9223372036854775807 then ((tunnel_wrapped.f x117000 x117001 x117002 x118000 x118001 x118002 47 ((((t133 ++ t134) ++ t136) ++ (⟨#[0, 0]⟩ : ByteArray)) ++ (t120 ++ x3))).bind fun bt137 => (some (bt137.1, bt137.2.1, bt137.2.2.1, bt137.2.2.2.1, bt137.2.2.2.2.1, bt137.2.2.2.2.2.1, bt137.2.2.2.2.2.2.1, bt137.2.2.2.2.2.2.2.1, bt137.2.2.2.2.2.2.2.2.1, bt137.2.2.2.2.2.2.2.2.2))) else (none)) else (none)) else (none)))) else (none)) else (none)) else (none)))) else ((field_Put.f k 8192 2).bind fun t121 => ((field_Put.f k (rd ([0, 2048, 34525, 25944] : List Int) x2) 2).bind fun t122 => (if t121.size + t122.size ≤ 9223372036854775807 then (if (t121 ++ t122).size + (t120 ++ x3).size ≤ 9223372036854775807 then ((tunnel_wrapped.f x117000 x117001 x117002 x118000 x118001 x118002 47 ((t121 ++ t122) ++ (t120 ++ x3))).bind fun bt123 => (some (bt123.1, bt123.2.1, bt123.2.2.1, bt123.2.2.2.1, bt123.2.2.2.2.1, bt123.2.2.2.2.2.1, bt123.2.2.2.2.2.2.1, bt123.2.2.2.2.2.2.2.1, bt123.2.2.2.2.2.2.2.2.1, bt123.2.2.2.2.2.2.2.2.2))) else (none)) else (none))))) else (none))) else (none)) else (none))
def tunnel_WrapGre.f (k : Nat) (b0 : Bool) (b1 : Int) (b2 : Int) (d0 : Bool) (d1 : Int) (d2 : Int) (a2 : Int) (a3 : ByteArray) (a4 : Int) (a5 : Bool) : Option (Bool × Int × Int × Bool × Int × Int × Int × Int × ByteArray × Int) := (tunnel_related.f b0 b1 b2 d0 d1 d2).bind fun t119 => (if t119 = true then (if a2 < 1 then (tunnel_WrapGre.j0 k a2 a3 a4 a5 true b0 b1 b2 d0 d1 d2) else (tunnel_WrapGre.j0 k a2 a3 a4 a5 (decide (a2 > 3)) b0 b1 b2 d0 d1 d2)) else (some (false, 0, 0, false, 0, 0, 0, 0, (⟨#[]⟩ : ByteArray), 13)))
theorem tunnel_WrapGre.mono_l : ∀ k, (∀ y0 y1 y2 y3 y4 y5 y6 y7 y8 y9 y10, LeO (tunnel_WrapGre.j0 k y0 y1 y2 y3 y4 y5 y6 y7 y8 y9 y10) (tunnel_WrapGre.j0 (k + 1) y0 y1 y2 y3 y4 y5 y6 y7 y8 y9 y10))
 | 0 => fun _ _ _ _ _ _ _ _ _ _ _ r h => by simp [tunnel_WrapGre.j0] at h
 | k + 1 => by
  have ih0 := tunnel_WrapGre.mono_l k
  intro y0 y1 y2 y3 y4 y5 y6 y7 y8 y9 y10
  unfold tunnel_WrapGre.j0
  repeat' first | with_reducible first | apply ih0 | apply checksum_Sum.mono | apply field_Put.mono | apply LeO.refl | apply LeO.none | refine LeO.ite ?_ ?_ | refine LeO.bind ?_ (fun _ => ?_)
theorem tunnel_WrapGre.mono : ∀ a0 a1 a2 a3 a4 a5 a6 a7 a8 a9 k, LeO (tunnel_WrapGre.f k a0 a1 a2 a3 a4 a5 a6 a7 a8 a9) (tunnel_WrapGre.f (k + 1) a0 a1 a2 a3 a4 a5 a6 a7 a8 a9) := by
 intro a0 a1 a2 a3 a4 a5 a6 a7 a8 a9 k
 have ih0 := tunnel_WrapGre.mono_l k
 unfold tunnel_WrapGre.f
 repeat' first | with_reducible first | apply ih0 | apply checksum_Sum.mono | apply field_Put.mono | apply LeO.refl | apply LeO.none | refine LeO.ite ?_ ?_ | refine LeO.bind ?_ (fun _ => ?_)
def tunnel_WrapGre.T8 : Bool × List (List Nat × List Nat) := (true, [([], []), ([], []), ([], []), ([], []), ([3, 2], [3]), ([2, 4], [2, 4]), ([], []), ([5, 6], [5, 6]), ([0, 1, 7, 4], [0, 1, 7]), ([8], [8]), ([8], [8]), ([9, 8, 0, 1, 2, 3, 4, 5, 6, 7, 8, 9, 10], [9]), ([10, 11, 0, 1, 2, 3, 4, 5, 6, 7, 8, 9, 10, 11], [10])])
def tunnel_WrapGre.B8 : List Nat := [0, 0, 0, 0, 12, 28, 0, 124, 255, 511, 511, 2047, 4095]
theorem tunnel_WrapGre.tab8 : rtab .any (opsOf Tryd.f12 8) = tunnel_WrapGre.T8 := by kernel_rfl
theorem tunnel_WrapGre.bits8 : waitsOk tunnel_WrapGre.T8.2 tunnel_WrapGre.B8 = true := by kernel_rfl
def tunnel_WrapGre.T11 : Bool × List (List Nat × List Nat) := (true, [([], []), ([], []), ([], []), ([], []), ([3], [3]), ([2, 4], [2, 4]), ([5], [5]), ([], []), ([6, 7], [6, 7]), ([0, 1, 8, 4], [0, 1, 8]), ([9], [9]), ([9], [9]), ([10, 9, 0, 1, 2, 3, 4, 5, 6, 7, 8, 9, 10, 11], [10]), ([11, 12, 0, 1, 2, 3, 4, 5, 6, 7, 8, 9, 10, 11, 12], [11])])
def tunnel_WrapGre.B11 : List Nat := [0, 0, 0, 0, 8, 28, 60, 0, 252, 511, 1023, 1023, 4095, 8191]
theorem tunnel_WrapGre.tab11 : rtab .any (opsOf Tryd.f12 11) = tunnel_WrapGre.T11 := by kernel_rfl
theorem tunnel_WrapGre.bits11 : waitsOk tunnel_WrapGre.T11.2 tunnel_WrapGre.B11 = true := by kernel_rfl
set_option maxHeartbeats 8000000 in
set_option maxRecDepth 100000 in
theorem tunnel_WrapGre.calls (k : Nat) (b0 : Bool) (b1 : Int) (b2 : Int) (d0 : Bool) (d1 : Int) (d2 : Int) (a2 : Int) (a3 : ByteArray) (a4 : Int) (a5 : Bool) (r1 : Bool) (r2 : Int) (r3 : Int) (r4 : Bool) (r5 : Int) (r6 : Int) (r7 : Int) (r8 : Int) (r9 : ByteArray) (r10 : Int) (w : World) (h : tunnel_WrapGre.f k b0 b1 b2 d0 d1 d2 a2 a3 a4 a5 = some (r1, r2, r3, r4, r5, r6, r7, r8, r9, r10)) :
  Calls Tryd.prog 12 #[.agg #[.bool b0, .int .u64 b1, .int .u64 b2], .agg #[.bool d0, .int .u64 d1, .int .u64 d2], .int .i64 a2, .string a3, .int .u32 a4, .bool a5] w fun e w' => e = .returned (.tuple #[.agg #[.bool r1, .int .u64 r2, .int .u64 r3, .bool r4, .int .u64 r5, .int .u64 r6, .int .i64 r7, .int .i64 r8, .string r9], .int .i64 r10]) ∧ Below w.heap.size w w' := by
 have hu24 := Tryd.underlying24
 have hu30 := Tryd.underlying30
 have hu53 := Tryd.underlying53
 have HB := As (Below.refl w.heap.size w)
 have H : ((tunnel_related.f b0 b1 b2 d0 d1 d2).bind fun t119 => (if t119 = true then (if a2 < 1 then (tunnel_WrapGre.j0 k a2 a3 a4 a5 true b0 b1 b2 d0 d1 d2) else (tunnel_WrapGre.j0 k a2 a3 a4 a5 (decide (a2 > 3)) b0 b1 b2 d0 d1 d2)) else (some (false, 0, 0, false, 0, 0, 0, 0, (⟨#[]⟩ : ByteArray), 13)))) = some (r1, r2, r3, r4, r5, r6, r7, r8, r9, r10) := h
 clear h
 replace H := bS H
 obtain ⟨t119, A7, H⟩ := H
 by_cases c8 : t119 = true
 ·subst c8
  rw [if_pos rfl] at H
  have HC9 := As H
  clear H
  go_enter Tryd.func12, Tryd.ntmps12
  go_upto_region 3 with (first | ((with_reducible refine gate_dst (N := 6) rfl ?_); refine box_event rfl (N := 6) rfl (cs := #[.bool b0, .int .u64 b1, .int .u64 b2]) (t := 24) kG ?_; intro gb116 hg w10 hbox hb; have BK116 := As (hbox); have GW116 := As (gS hg (below_size (kB HB.out))); have GE116 := As (gS hg (below_size (kB HB.out))); replace HB := As (below_step (kB HB.out) hb); clear hb hbox hg) | ((with_reducible refine gate_dst (N := 7) rfl ?_); refine box_event rfl (N := 7) rfl (cs := #[.bool d0, .int .u64 d1, .int .u64 d2]) (t := 24) kG ?_; intro gb117 hg w11 hbox hb; have BK117 := As (hbox); have GW117 := As (gS hg (below_size (kB1 HB.out GE116.out))); have GE117 := As (gS hg (below_size (kB1 HB.out GE116.out))); replace HB := As (below_step (kB1 HB.out GE116.out) hb); have NB116_117 := As (gN hg (blk_lt (kb BK116.out))); have NB117_116 := As (gM hg (blk_lt (kb BK116.out))); replace BK116 := As (blk_below (kb BK116.out) hb); clear hb hbox hg) | ((with_reducible refine gate_dst (N := 12) rfl ?_); refine box_event rfl (N := 12) rfl (cs := #[.bool false, .int .u64 0, .int .u64 0, .bool false, .int .u64 0, .int .u64 0, .int .i64 0, .int .i64 0, .string (⟨#[]⟩ : ByteArray)]) (t := 30) kG ?_; intro gb118 hg w12 hbox hb; have BK118 := As (hbox); have GW118 := As (gS hg (below_size (kB2 HB.out GE116.out GE117.out))); have GE118 := As (gS hg (below_size (kB2 HB.out GE116.out GE117.out))); replace HB := As (below_step (kB2 HB.out GE116.out GE117.out) hb); have NB116_118 := As (gN hg (blk_lt (kb BK116.out))); have NB118_116 := As (gM hg (blk_lt (kb BK116.out))); replace BK116 := As (blk_below (kb BK116.out) hb); have NB117_118 := As (gN hg (blk_lt (kb BK117.out))); have NB118_117 := As (gM hg (blk_lt (kb BK117.out))); replace BK117 := As (blk_below (kb BK117.out) hb); clear hb hbox hg; have hnb13 := NB116_117.out; have hnc13 := NB117_116.out; have hnb14 := NB116_118.out; have hnc14 := NB118_116.out; have hcz15_0 := cells_3 BK116.out; have hfz15_0 := fun j_ => blk_frozen BK116.out j_; have hnb16 := NB117_118.out; have hnc16 := NB118_117.out; have hcz17_0 := cells_3 BK117.out; have hfz17_0 := fun j_ => blk_frozen BK117.out j_) | ((with_reducible refine gate_callee (f := 26) rfl ?_); refine goesL_ (some 20) rfl rfl Tryd.func26 (by kernel_rfl) rfl #[.agg #[.bool b0, .int .u64 b1, .int .u64 b2], .agg #[.bool d0, .int .u64 d1, .int .u64 d2]] rfl kA ?_; (with_reducible refine (tunnel_related.calls b0 b1 b2 d0 d1 d2 true _ A7.out).mono ?_); rintro e w18 ⟨rfl, hb⟩; refine ⟨_, rfl, ?_⟩; replace BK116 := As (blk_below (kb BK116.out) hb); replace BK117 := As (blk_below (kb BK117.out) hb); replace BK118 := As (blk_below (kb BK118.out) hb); replace HB := As (below_step (kB3 HB.out GE116.out GE117.out GE118.out) hb); (try clear hb)))
  (try simp only [Act.put, sA, sZ, sS])
  go_cut [28] (fun v28 wc => ∃ (kq : Nat) (x28_8 : Bool), v28 = .bool x28_8 ∧ Aside0 (tunnel_WrapGre.j0 kq a2 a3 a4 a5 x28_8 b0 b1 b2 d0 d1 d2 = some (r1, r2, r3, r4, r5, r6, r7, r8, r9, r10)) ∧ Aside0 (kq ≤ k) ∧ Aside0 (wc.heap[gb116]? = some (.cells #[.bool b0, .int .u64 b1, .int .u64 b2] 24 (0, 0))) ∧ Aside0 (wc.heap[gb117]? = some (.cells #[.bool d0, .int .u64 d1, .int .u64 d2] 24 (0, 0))) ∧ Aside0 (wc.heap[gb118]? = some (.cells #[.bool false, .int .u64 0, .int .u64 0, .bool false, .int .u64 0, .int .u64 0, .int .i64 0, .int .i64 0, .string (⟨#[]⟩ : ByteArray)] 30 (0, 0))) ∧ Aside0 (Below w.heap.size w wc))
  case first =>
   have H := HC9.out
   clear HC9
   by_cases c19 : a2 < 1
   ·rw [if_pos c19] at H
    have c19b0 : decide (a2 < 1) = true := decide_eq_true c19
    clear c19
    (first | rw [c19b0] | (simp only [i64_w, i32_w]; rw [c19b0]) | skip)
    have H' := As H
    clear H
    go_wp2
    go_meet
    case rel => exact ⟨_, (true), kS, H', ⟨by first | omega | exact Nat.le_refl _⟩, ⟨kb BK116.out⟩, ⟨kb BK117.out⟩, ⟨kb BK118.out⟩, ⟨kB3 HB.out GE116.out GE117.out GE118.out⟩⟩
   rw [if_neg c19] at H
   have c19b0 : decide (a2 < 1) = false := decide_eq_false c19
   clear c19
   (first | rw [c19b0] | (simp only [i64_w, i32_w]; rw [c19b0]) | skip)
   have H' := As H
   clear H
   go_wp2
   go_meet
   case rel => exact ⟨_, (decide (a2 > 3)), kS, H', ⟨by first | omega | exact Nat.le_refl _⟩, ⟨kb BK116.out⟩, ⟨kb BK117.out⟩, ⟨kb BK118.out⟩, ⟨kB3 HB.out GE116.out GE117.out GE118.out⟩⟩
  clear HC9
  try clear c8
  try clear hcz15_0
  try clear hcz17_0
  try clear hfz15_0
  try clear hfz17_0
  obtain ⟨kq, x28_8, rfl, HA, HJ8, BK116, BK117, BK118, HB⟩ := hcut
  cases kq with
  | zero => exact absurd HA.out (by simp [tunnel_WrapGre.j0])
  | succ kj8 =>
   have H := HA.out
   clear HA
   simp only [tunnel_WrapGre.j0] at H
   by_cases c20 : x28_8 = true
   ·subst c20
    rw [if_pos rfl] at H
    simp only [Option.some.injEq, Prod.mk.injEq] at H
    obtain ⟨rfl, rfl, rfl, rfl, rfl, rfl, rfl, rfl, rfl, rfl⟩ := H
    go_wp2_with (first | ((with_reducible refine gate_store (t := 30) (p := 12) rfl ?_); refine store_rowev_9 gb118 (.bool false) (.int .u64 0) (.int .u64 0) (.bool false) (.int .u64 0) (.int .u64 0) (.int .i64 0) (.int .i64 0) (.string (⟨#[]⟩ : ByteArray)) rfl (t := 30) (p := 12) (v := _) rfl rfl rfl rfl (t' := 30) (kb BK118.out) (by rfl) (by kernel_rfl) (by rfl) ?_))
    refine bodyPost_ret (results_ct rfl _ _ gb118 30 #[.bool false, .int .u64 0, .int .u64 0, .bool false, .int .u64 0, .int .u64 0, .int .i64 0, .int .i64 0, .string (⟨#[]⟩ : ByteArray)] (0, 0) _ rfl (by refine kb ?_; exact blk_all_9 (kb BK118.out) (by rfl)) Tryd.underlying30 rfl (by kernel_rfl)) rfl ?_
    exact ⟨kE, by exact kB3 HB.out GE116.out GE117.out GE118.out⟩
   replace c20 := Bool.eq_false_iff.mpr c20
   subst c20
   rw [if_neg (show ¬ (false = true) by decide)] at H
   replace H := iS H
   obtain ⟨c21, H⟩ := H
   have c21b0 := decide_eq_true c21
   clear c21
   replace H := iS H
   obtain ⟨c22, H⟩ := H
   have c22b0 := decide_eq_true c22
   clear c22
   replace H := bS H
   obtain ⟨t120, A24, H⟩ := H
   replace H := iS H
   obtain ⟨c25, H⟩ := H
   have c25b0 := eq_true c25
   have c25b1 := decide_eq_true c25
   try have c25b2 := eq_false (Nat.not_lt.2 c25)
   by_cases c26 : a5 = true
   ·subst c26
    rw [if_pos rfl] at H
    replace H := bS H
    obtain ⟨t133, A27, H⟩ := H
    replace H := bS H
    obtain ⟨t134, A28, H⟩ := H
    replace H := iS H
    obtain ⟨c29, H⟩ := H
    have c29b0 := eq_true c29
    have c29b1 := decide_eq_true c29
    try have c29b2 := eq_false (Nat.not_lt.2 c29)
    replace H := iS H
    obtain ⟨c30, H⟩ := H
    have c30b0 := eq_true c30
    have c30b1 := decide_eq_true c30
    try obtain ⟨c30s0, c30s1, c30s2⟩ := sz_ (a := (t133.size + t134.size) + 4) c30
    try have c30b2 := eq_false (Nat.not_lt.2 c30)
    replace H := iS H
    obtain ⟨c31, H⟩ := H
    have c31b0 := eq_true c31
    have c31b1 := decide_eq_true c31
    try obtain ⟨c31s0, c31s1, c31s2⟩ := sz_ (a := (t133.size + t134.size + 4) + (t120.size + a3.size)) c31
    try obtain ⟨c31s3, c31s4, c31s5⟩ := sz_ (a := t133.size + t134.size + 4 + t120.size + a3.size) c31
    try have c31b2 := eq_false (Nat.not_lt.2 c31)
    replace H := bS H
    obtain ⟨t135, A32, H⟩ := H
    replace H := bS H
    obtain ⟨t136, A33, H⟩ := H
    replace H := iS H
    obtain ⟨c34, H⟩ := H
    have c34b0 := eq_true c34
    have c34b1 := decide_eq_true c34
    try obtain ⟨c34s0, c34s1, c34s2⟩ := sz_ (a := (t133.size + t134.size) + t136.size) c34
    try have c34b2 := eq_false (Nat.not_lt.2 c34)
    replace H := iS H
    obtain ⟨c35, H⟩ := H
    have c35b0 := eq_true c35
    have c35b1 := decide_eq_true c35
    try obtain ⟨c35s0, c35s1, c35s2⟩ := sz_ (a := (t133.size + t134.size + t136.size) + 2) c35
    try have c35b2 := eq_false (Nat.not_lt.2 c35)
    replace H := iS H
    obtain ⟨c36, H⟩ := H
    have c36b0 := eq_true c36
    have c36b1 := decide_eq_true c36
    try obtain ⟨c36s0, c36s1, c36s2⟩ := sz_ (a := (t133.size + t134.size + t136.size + 2) + (t120.size + a3.size)) c36
    try obtain ⟨c36s3, c36s4, c36s5⟩ := sz_ (a := t133.size + t134.size + t136.size + 2 + t120.size + a3.size) c36
    try have c36b2 := eq_false (Nat.not_lt.2 c36)
    replace H := bS H
    obtain ⟨⟨t137, t138, t139, t140, t141, t142, t143, t144, t145, t146⟩, A37, H⟩ := H
    try dsimp -simprocs only at H
    simp only [Option.some.injEq, Prod.mk.injEq] at H
    obtain ⟨rfl, rfl, rfl, rfl, rfl, rfl, rfl, rfl, rfl, rfl⟩ := H
    have hidx23 : ∀ W : World, (Instr.index 53 (.agg #[.int .i64 0, .int .i64 2048, .int .i64 34525, .int .i64 25944]) (.int .i64 a2)).run Tryd.prog W = .ok (.int .i64 (rd ([0, 2048, 34525, 25944] : List Int) a2)) W := by intro W; have q0_ : 0 ≤ a2 := of_decide_eq_true (by first | (with_reducible assumption) | assumption); have q1_ : a2 < 4 := of_decide_eq_true (by first | (with_reducible assumption) | assumption); have q_ : a2 = 0 ∨ a2 = 1 ∨ a2 = 2 ∨ a2 = 3 := (by omega); rcases q_ with q_ | q_ | q_ | q_ <;> (rw [q_]; first | done | (change _ = _; kernel_rfl))
    try go_wp2_with (first | ((with_reducible refine gate_callee (f := 27) rfl ?_); refine goesL_ (some 35) rfl rfl Tryd.func27 (by kernel_rfl) rfl #[.int .i64 (wrap64 (a4)), .int .i64 4] rfl kA ?_; (with_reducible refine (field_Put.calls kj8 (wrap64 (a4)) 4 t120 _ A24.out).mono ?_); rintro e w38 ⟨rfl, hb⟩; refine ⟨_, rfl, ?_⟩; replace BK116 := As (blk_below (kb BK116.out) hb); replace BK117 := As (blk_below (kb BK117.out) hb); replace BK118 := As (blk_below (kb BK118.out) hb); replace HB := As (below_step (kB3 HB.out GE116.out GE117.out GE118.out) hb); (try clear hb)) | ((with_reducible refine gate_callee (f := 27) rfl ?_); refine goesL_ (some 51) rfl rfl Tryd.func27 (by kernel_rfl) rfl #[.int .i64 40960, .int .i64 2] rfl kA ?_; (with_reducible refine (field_Put.calls kj8 40960 2 t133 _ A27.out).mono ?_); rintro e w39 ⟨rfl, hb⟩; refine ⟨_, rfl, ?_⟩; replace BK116 := As (blk_below (kb BK116.out) hb); replace BK117 := As (blk_below (kb BK117.out) hb); replace BK118 := As (blk_below (kb BK118.out) hb); replace HB := As (below_step (kB3 HB.out GE116.out GE117.out GE118.out) hb); (try clear hb)) | ((with_reducible refine gate_callee (f := 27) rfl ?_); refine goesL_ (some 53) rfl rfl Tryd.func27 (by kernel_rfl) rfl #[.int .i64 (rd ([0, 2048, 34525, 25944] : List Int) a2), .int .i64 2] rfl kA ?_; (with_reducible refine (field_Put.calls kj8 (rd ([0, 2048, 34525, 25944] : List Int) a2) 2 t134 _ A28.out).mono ?_); rintro e w40 ⟨rfl, hb⟩; refine ⟨_, rfl, ?_⟩; replace BK116 := As (blk_below (kb BK116.out) hb); replace BK117 := As (blk_below (kb BK117.out) hb); replace BK118 := As (blk_below (kb BK118.out) hb); replace HB := As (below_step (kB3 HB.out GE116.out GE117.out GE118.out) hb); (try clear hb)) | ((with_reducible refine gate_callee (f := 29) rfl ?_); refine goesL_ (some 59) rfl rfl Tryd.func29 (by kernel_rfl) rfl #[.string (((t133 ++ t134) ++ (⟨#[0, 0, 0, 0]⟩ : ByteArray)) ++ (t120 ++ a3))] rfl kA ?_; (with_reducible refine (checksum_Sum.calls kj8 (((t133 ++ t134) ++ (⟨#[0, 0, 0, 0]⟩ : ByteArray)) ++ (t120 ++ a3)) t135 _ A32.out).mono ?_); rintro e w' ⟨rfl, ⟨nd, rfl⟩⟩; refine ⟨_, rfl, ?_⟩; (try (rw [drewN_self w40]; generalize hq_ : World.drewN w40 _ = w40; have n0_ : Aside0 (w40.heap[gb116]? = some (.cells #[.bool b0, .int .u64 b1, .int .u64 b2] 24 (0, 0))) := ⟨by rw [← hq_]; exact (kb BK116.out)⟩; have n1_ : Aside0 (w40.heap[gb117]? = some (.cells #[.bool d0, .int .u64 d1, .int .u64 d2] 24 (0, 0))) := ⟨by rw [← hq_]; exact (kb BK117.out)⟩; have n2_ : Aside0 (w40.heap[gb118]? = some (.cells #[.bool false, .int .u64 0, .int .u64 0, .bool false, .int .u64 0, .int .u64 0, .int .i64 0, .int .i64 0, .string (⟨#[]⟩ : ByteArray)] 30 (0, 0))) := ⟨by rw [← hq_]; exact (kb BK118.out)⟩; have n3_ : Aside0 (Below w.heap.size w w40) := ⟨by rw [← hq_]; exact (kB3 HB.out GE116.out GE117.out GE118.out)⟩; clear BK116 BK117 BK118 HB hq_; have BK116 := n0_; have BK117 := n1_; have BK118 := n2_; have HB := n3_; clear n0_ n1_ n2_ n3_))))
    replace BK116 := As (blk_drew BK116.out)
    replace BK117 := As (blk_drew BK117.out)
    replace BK118 := As (blk_drew BK118.out)
    replace HB := As (below_drew1 HB.out)
    refine start_ (n := 14) (S := fun w' => w'.cell? ⟨gb116, 0, none⟩ = some (.bool b0) ∧ w'.cell? ⟨gb116, 1, none⟩ = some (.int .u64 b1) ∧ w'.cell? ⟨gb116, 2, none⟩ = some (.int .u64 b2) ∧ w'.cell? ⟨gb117, 0, none⟩ = some (.bool d0) ∧ w'.cell? ⟨gb117, 1, none⟩ = some (.int .u64 d1) ∧ w'.cell? ⟨gb117, 2, none⟩ = some (.int .u64 d2)) (ds := []) #[O, O, O, O, O, O, O, O, O, O, O, O, O, O] (by kernel_rfl) rfl rfl ⟨kC BK116.out 0, kC BK116.out 1, kC BK116.out 2, kC BK117.out 0, kC BK117.out 1, kC BK117.out 2⟩ (fun hHeld => ?_); refine with_tabW tunnel_WrapGre.tab11 tunnel_WrapGre.bits11 (fun HT_ HW_ => ?_)
    generalize w40.drew = w41 at BK116 BK117 BK118 HB hHeld ⊢
    refine kP 2 62 #[O, O, I, O, O, O, O, O, O, O, O, O, O, O] ?_ (any_of HT_.out (by kernel_rfl))
    refine kP 3 63 #[O, O, I, I, O, O, O, O, O, O, O, O, O, O] ?_ (any_of HT_.out (by kernel_rfl))
    refine kP 7 67 #[O, O, I, I, O, O, O, I, O, O, O, O, O, O] ?_ (any_of HT_.out (by kernel_rfl))
    refine take_ (i := 0) (N := some 60) (v := ?_) (a' := ?_) #[I, O, I, I, O, O, O, I, O, O, O, O, O, O] rfl rfl (take_ofW HT_.out HW_.out (by kernel_rfl)) (fun _ _ _ h => h) (Or.inl ⟨by rfl, ?_⟩) hHeld ?_ ?_
    rotate_left
    ·rintro w' ⟨s0, s1, s2, s3, s4, s5⟩
     go_simp
     with_reducible rfl
    rotate_left
    ·simp only [Act.put, sA, sZ, sS, i64_w, i32_w]
     rfl
    refine take_ (i := 1) (N := some 61) (v := ?_) (a' := ?_) #[I, I, I, I, O, O, O, I, O, O, O, O, O, O] rfl rfl (take_ofW HT_.out HW_.out (by kernel_rfl)) (fun _ _ _ h => h) (Or.inl ⟨by rfl, ?_⟩) hHeld ?_ ?_
    rotate_left
    ·rintro w' ⟨s0, s1, s2, s3, s4, s5⟩
     go_simp
     with_reducible rfl
    rotate_left
    ·simp only [Act.put, sA, sZ, sS, i64_w, i32_w]
     rfl
    refine one_ (i := 4) (N := some 64) #[I, I, I, I, I, O, O, I, O, O, O, O, O, O] rfl rfl (one_of HT_.out (by kernel_rfl)) (by decide) (fun K hK => ?_)
    refine goes_ Tryd.func27 (by kernel_rfl) rfl #[.int .i64 t135, .int .i64 2] (by rfl) rfl rfl kA ?_
    with_reducible refine (field_Put.calls kj8 t135 2 t136 _ A33.out).mono ?_
    rintro e w42 ⟨rfl, hb⟩
    refine ⟨_, rfl, ?_⟩
    replace BK116 := As (blk_below (kb BK116.out) hb)
    replace BK117 := As (blk_below (kb BK117.out) hb)
    replace BK118 := As (blk_below (kb BK118.out) hb)
    replace HB := As (below_step (kB3 HB.out GE116.out GE117.out GE118.out) hb)
    (try clear hb)
    (try clear hb2)
    (try clear hk)
    (try clear hi)
    refine hK.out _ _ ⟨kC BK116.out 0, kC BK116.out 1, kC BK116.out 2, kC BK117.out 0, kC BK117.out 1, kC BK117.out 2⟩ (fun hHeld => ?_)
    clear hK K
    refine nP ?_
    refine kP 5 65 #[I, I, I, I, I, I, O, I, O, O, O, O, O, O] ?_ (any_of HT_.out (by kernel_rfl))
    refine kP 6 66 #[I, I, I, I, I, I, I, I, O, O, O, O, O, O] ?_ (any_of HT_.out (by kernel_rfl))
    refine kP 8 68 #[I, I, I, I, I, I, I, I, I, O, O, O, O, O] ?_ (any_of HT_.out (by kernel_rfl))
    refine one_ (i := 9) (N := some 69) #[I, I, I, I, I, I, I, I, I, I, O, O, O, O] rfl rfl (one_of HT_.out (by kernel_rfl)) (by decide) (fun K hK => ?_)
    refine goes_ Tryd.func28 (by kernel_rfl) rfl #[.agg #[.bool b0, .int .u64 b1, .int .u64 b2], .agg #[.bool d0, .int .u64 d1, .int .u64 d2], .int .i64 47, .string ((((t133 ++ t134) ++ t136) ++ (⟨#[0, 0]⟩ : ByteArray)) ++ (t120 ++ a3))] (by rfl) rfl rfl kA ?_
    with_reducible refine (tunnel_wrapped.calls b0 b1 b2 d0 d1 d2 47 ((((t133 ++ t134) ++ t136) ++ (⟨#[0, 0]⟩ : ByteArray)) ++ (t120 ++ a3)) t137 t138 t139 t140 t141 t142 t143 t144 t145 t146 _ A37.out).mono ?_
    rintro e w43 ⟨rfl, hb⟩
    refine ⟨_, rfl, ?_⟩
    replace BK116 := As (blk_below (kb BK116.out) hb)
    replace BK117 := As (blk_below (kb BK117.out) hb)
    replace BK118 := As (blk_below (kb BK118.out) hb)
    replace HB := As (below_step (kB3 HB.out GE116.out GE117.out GE118.out) hb)
    (try clear hb)
    (try clear hb2)
    (try clear hk)
    (try clear hi)
    refine hK.out _ _ ⟨kC BK116.out 0, kC BK116.out 1, kC BK116.out 2, kC BK117.out 0, kC BK117.out 1, kC BK117.out 2⟩ (fun hHeld => ?_)
    clear hK K
    refine nP ?_
    refine kP 10 70 #[I, I, I, I, I, I, I, I, I, I, I, O, O, O] ?_ (any_of HT_.out (by kernel_rfl))
    refine kP 11 71 #[I, I, I, I, I, I, I, I, I, I, I, I, O, O] ?_ (any_of HT_.out (by kernel_rfl))
    refine one_ (i := 12) (N := none) #[I, I, I, I, I, I, I, I, I, I, I, I, I, O] rfl rfl (one_of HT_.out (by kernel_rfl)) (by decide) (fun K hK => ?_)
    have hs44 : w43.cell? ⟨gb118, 0, none⟩ = some (.bool false) := (blk_cell BK118.out 0).trans rfl
    have hfs44 := blk_frozen BK118.out 0
    have hns44_0 := NB116_118.out
    have hns44_1 := NB117_118.out
    have hms44_0 := NB118_116.out
    have hms44_1 := NB118_117.out
    have hs45 : w43.cell? ⟨gb118, 1, none⟩ = some (.int .u64 0) := (blk_cell BK118.out 1).trans rfl
    have hfs45 := blk_frozen BK118.out 1
    have hns45_0 := NB116_118.out
    have hns45_1 := NB117_118.out
    have hms45_0 := NB118_116.out
    have hms45_1 := NB118_117.out
    have hs46 : w43.cell? ⟨gb118, 2, none⟩ = some (.int .u64 0) := (blk_cell BK118.out 2).trans rfl
    have hfs46 := blk_frozen BK118.out 2
    have hns46_0 := NB116_118.out
    have hns46_1 := NB117_118.out
    have hms46_0 := NB118_116.out
    have hms46_1 := NB118_117.out
    have hs47 : w43.cell? ⟨gb118, 3, none⟩ = some (.bool false) := (blk_cell BK118.out 3).trans rfl
    have hfs47 := blk_frozen BK118.out 3
    have hns47_0 := NB116_118.out
    have hns47_1 := NB117_118.out
    have hms47_0 := NB118_116.out
    have hms47_1 := NB118_117.out
    have hs48 : w43.cell? ⟨gb118, 4, none⟩ = some (.int .u64 0) := (blk_cell BK118.out 4).trans rfl
    have hfs48 := blk_frozen BK118.out 4
    have hns48_0 := NB116_118.out
    have hns48_1 := NB117_118.out
    have hms48_0 := NB118_116.out
    have hms48_1 := NB118_117.out
    have hs49 : w43.cell? ⟨gb118, 5, none⟩ = some (.int .u64 0) := (blk_cell BK118.out 5).trans rfl
    have hfs49 := blk_frozen BK118.out 5
    have hns49_0 := NB116_118.out
    have hns49_1 := NB117_118.out
    have hms49_0 := NB118_116.out
    have hms49_1 := NB118_117.out
    have hs50 : w43.cell? ⟨gb118, 6, none⟩ = some (.int .i64 0) := (blk_cell BK118.out 6).trans rfl
    have hfs50 := blk_frozen BK118.out 6
    have hns50_0 := NB116_118.out
    have hns50_1 := NB117_118.out
    have hms50_0 := NB118_116.out
    have hms50_1 := NB118_117.out
    have hs51 : w43.cell? ⟨gb118, 7, none⟩ = some (.int .i64 0) := (blk_cell BK118.out 7).trans rfl
    have hfs51 := blk_frozen BK118.out 7
    have hns51_0 := NB116_118.out
    have hns51_1 := NB117_118.out
    have hms51_0 := NB118_116.out
    have hms51_1 := NB118_117.out
    have hs52 : w43.cell? ⟨gb118, 8, none⟩ = some (.string (⟨#[]⟩ : ByteArray)) := (blk_cell BK118.out 8).trans rfl
    have hfs52 := blk_frozen BK118.out 8
    have hns52_0 := NB116_118.out
    have hns52_1 := NB117_118.out
    have hms52_0 := NB118_116.out
    have hms52_1 := NB118_117.out
    refine skip_ (w1 := ?_) (by rfl) rfl ?_ ?_
    rotate_left
    ·go_simp
     rfl
    refine hK.out _ _ ⟨((cell_far (p := ⟨gb118, _, none⟩) NB116_118.out _).trans (((cell_far (p := ⟨gb118, _, none⟩) NB116_118.out _).trans (((cell_far (p := ⟨gb118, _, none⟩) NB116_118.out _).trans (((cell_far (p := ⟨gb118, _, none⟩) NB116_118.out _).trans (((cell_far (p := ⟨gb118, _, none⟩) NB116_118.out _).trans (((cell_far (p := ⟨gb118, _, none⟩) NB116_118.out _).trans (((cell_far (p := ⟨gb118, _, none⟩) NB116_118.out _).trans (((cell_far (p := ⟨gb118, _, none⟩) NB116_118.out _).trans (kF NB116_118.out hHeld.1)))))))))))))))), ((cell_far (p := ⟨gb118, _, none⟩) NB116_118.out _).trans (((cell_far (p := ⟨gb118, _, none⟩) NB116_118.out _).trans (((cell_far (p := ⟨gb118, _, none⟩) NB116_118.out _).trans (((cell_far (p := ⟨gb118, _, none⟩) NB116_118.out _).trans (((cell_far (p := ⟨gb118, _, none⟩) NB116_118.out _).trans (((cell_far (p := ⟨gb118, _, none⟩) NB116_118.out _).trans (((cell_far (p := ⟨gb118, _, none⟩) NB116_118.out _).trans (((cell_far (p := ⟨gb118, _, none⟩) NB116_118.out _).trans (kF NB116_118.out hHeld.2.1)))))))))))))))), ((cell_far (p := ⟨gb118, _, none⟩) NB116_118.out _).trans (((cell_far (p := ⟨gb118, _, none⟩) NB116_118.out _).trans (((cell_far (p := ⟨gb118, _, none⟩) NB116_118.out _).trans (((cell_far (p := ⟨gb118, _, none⟩) NB116_118.out _).trans (((cell_far (p := ⟨gb118, _, none⟩) NB116_118.out _).trans (((cell_far (p := ⟨gb118, _, none⟩) NB116_118.out _).trans (((cell_far (p := ⟨gb118, _, none⟩) NB116_118.out _).trans (((cell_far (p := ⟨gb118, _, none⟩) NB116_118.out _).trans (kF NB116_118.out hHeld.2.2.1)))))))))))))))), ((cell_far (p := ⟨gb118, _, none⟩) NB117_118.out _).trans (((cell_far (p := ⟨gb118, _, none⟩) NB117_118.out _).trans (((cell_far (p := ⟨gb118, _, none⟩) NB117_118.out _).trans (((cell_far (p := ⟨gb118, _, none⟩) NB117_118.out _).trans (((cell_far (p := ⟨gb118, _, none⟩) NB117_118.out _).trans (((cell_far (p := ⟨gb118, _, none⟩) NB117_118.out _).trans (((cell_far (p := ⟨gb118, _, none⟩) NB117_118.out _).trans (((cell_far (p := ⟨gb118, _, none⟩) NB117_118.out _).trans (kF NB117_118.out hHeld.2.2.2.1)))))))))))))))), ((cell_far (p := ⟨gb118, _, none⟩) NB117_118.out _).trans (((cell_far (p := ⟨gb118, _, none⟩) NB117_118.out _).trans (((cell_far (p := ⟨gb118, _, none⟩) NB117_118.out _).trans (((cell_far (p := ⟨gb118, _, none⟩) NB117_118.out _).trans (((cell_far (p := ⟨gb118, _, none⟩) NB117_118.out _).trans (((cell_far (p := ⟨gb118, _, none⟩) NB117_118.out _).trans (((cell_far (p := ⟨gb118, _, none⟩) NB117_118.out _).trans (((cell_far (p := ⟨gb118, _, none⟩) NB117_118.out _).trans (kF NB117_118.out hHeld.2.2.2.2.1)))))))))))))))), ((cell_far (p := ⟨gb118, _, none⟩) NB117_118.out _).trans (((cell_far (p := ⟨gb118, _, none⟩) NB117_118.out _).trans (((cell_far (p := ⟨gb118, _, none⟩) NB117_118.out _).trans (((cell_far (p := ⟨gb118, _, none⟩) NB117_118.out _).trans (((cell_far (p := ⟨gb118, _, none⟩) NB117_118.out _).trans (((cell_far (p := ⟨gb118, _, none⟩) NB117_118.out _).trans (((cell_far (p := ⟨gb118, _, none⟩) NB117_118.out _).trans (((cell_far (p := ⟨gb118, _, none⟩) NB117_118.out _).trans (kF NB117_118.out hHeld.2.2.2.2.2))))))))))))))))⟩ (fun hHeld => ?_)
    clear hK K
    refine kP 13 13 #[I, I, I, I, I, I, I, I, I, I, I, I, I, I] ?_ (any_of HT_.out (by kernel_rfl))
    refine done_ (done_of HT_.out (by kernel_rfl)) ?_
    try go_wp2
    refine bodyPost_ret (results_ct rfl _ _ gb118 30 #[.bool t137, .int .u64 t138, .int .u64 t139, .bool t140, .int .u64 t141, .int .u64 t142, .int .i64 t143, .int .i64 t144, .string t145] (0, 0) _ rfl (by refine kb ?_; exact blk_all_9 (kb BK118.out) (by rfl)) Tryd.underlying30 rfl (by kernel_rfl)) rfl ?_
    exact ⟨kE, by exact kB3 HB.out GE116.out GE117.out GE118.out⟩
   replace c26 := Bool.eq_false_iff.mpr c26
   subst c26
   rw [if_neg (show ¬ (false = true) by decide)] at H
   replace H := bS H
   obtain ⟨t121, A53, H⟩ := H
   replace H := bS H
   obtain ⟨t122, A54, H⟩ := H
   replace H := iS H
   obtain ⟨c55, H⟩ := H
   have c55b0 := eq_true c55
   have c55b1 := decide_eq_true c55
   try have c55b2 := eq_false (Nat.not_lt.2 c55)
   replace H := iS H
   obtain ⟨c56, H⟩ := H
   have c56b0 := eq_true c56
   have c56b1 := decide_eq_true c56
   try obtain ⟨c56s0, c56s1, c56s2⟩ := sz_ (a := (t121.size + t122.size) + (t120.size + a3.size)) c56
   try obtain ⟨c56s3, c56s4, c56s5⟩ := sz_ (a := t121.size + t122.size + t120.size + a3.size) c56
   try have c56b2 := eq_false (Nat.not_lt.2 c56)
   replace H := bS H
   obtain ⟨⟨t123, t124, t125, t126, t127, t128, t129, t130, t131, t132⟩, A57, H⟩ := H
   try dsimp -simprocs only at H
   simp only [Option.some.injEq, Prod.mk.injEq] at H
   obtain ⟨rfl, rfl, rfl, rfl, rfl, rfl, rfl, rfl, rfl, rfl⟩ := H
   have hidx23 : ∀ W : World, (Instr.index 53 (.agg #[.int .i64 0, .int .i64 2048, .int .i64 34525, .int .i64 25944]) (.int .i64 a2)).run Tryd.prog W = .ok (.int .i64 (rd ([0, 2048, 34525, 25944] : List Int) a2)) W := by intro W; have q0_ : 0 ≤ a2 := of_decide_eq_true (by first | (with_reducible assumption) | assumption); have q1_ : a2 < 4 := of_decide_eq_true (by first | (with_reducible assumption) | assumption); have q_ : a2 = 0 ∨ a2 = 1 ∨ a2 = 2 ∨ a2 = 3 := (by omega); rcases q_ with q_ | q_ | q_ | q_ <;> (rw [q_]; first | done | (change _ = _; kernel_rfl))
   try go_wp2_with (first | ((with_reducible refine gate_callee (f := 27) rfl ?_); refine goesL_ (some 35) rfl rfl Tryd.func27 (by kernel_rfl) rfl #[.int .i64 (wrap64 (a4)), .int .i64 4] rfl kA ?_; (with_reducible refine (field_Put.calls kj8 (wrap64 (a4)) 4 t120 _ A24.out).mono ?_); rintro e w58 ⟨rfl, hb⟩; refine ⟨_, rfl, ?_⟩; replace BK116 := As (blk_below (kb BK116.out) hb); replace BK117 := As (blk_below (kb BK117.out) hb); replace BK118 := As (blk_below (kb BK118.out) hb); replace HB := As (below_step (kB3 HB.out GE116.out GE117.out GE118.out) hb); (try clear hb)))
   replace BK116 := As (blk_drew BK116.out)
   replace BK117 := As (blk_drew BK117.out)
   replace BK118 := As (blk_drew BK118.out)
   replace HB := As (below_drew1 HB.out)
   refine start_ (n := 13) (S := fun w' => w'.cell? ⟨gb116, 0, none⟩ = some (.bool b0) ∧ w'.cell? ⟨gb116, 1, none⟩ = some (.int .u64 b1) ∧ w'.cell? ⟨gb116, 2, none⟩ = some (.int .u64 b2) ∧ w'.cell? ⟨gb117, 0, none⟩ = some (.bool d0) ∧ w'.cell? ⟨gb117, 1, none⟩ = some (.int .u64 d1) ∧ w'.cell? ⟨gb117, 2, none⟩ = some (.int .u64 d2)) (ds := []) #[O, O, O, O, O, O, O, O, O, O, O, O, O] (by kernel_rfl) rfl rfl ⟨kC BK116.out 0, kC BK116.out 1, kC BK116.out 2, kC BK117.out 0, kC BK117.out 1, kC BK117.out 2⟩ (fun hHeld => ?_); refine with_tabW tunnel_WrapGre.tab8 tunnel_WrapGre.bits8 (fun HT_ HW_ => ?_)
   generalize w58.drew = w59 at BK116 BK117 BK118 HB hHeld ⊢
   refine kP 3 43 #[O, O, O, I, O, O, O, O, O, O, O, O, O] ?_ (any_of HT_.out (by kernel_rfl))
   refine kP 6 46 #[O, O, O, I, O, O, I, O, O, O, O, O, O] ?_ (any_of HT_.out (by kernel_rfl))
   refine take_ (i := 0) (N := some 40) (v := ?_) (a' := ?_) #[I, O, O, I, O, O, I, O, O, O, O, O, O] rfl rfl (take_ofW HT_.out HW_.out (by kernel_rfl)) (fun _ _ _ h => h) (Or.inl ⟨by rfl, ?_⟩) hHeld ?_ ?_
   rotate_left
   ·rintro w' ⟨s0, s1, s2, s3, s4, s5⟩
    go_simp
    with_reducible rfl
   rotate_left
   ·simp only [Act.put, sA, sZ, sS, i64_w, i32_w]
    rfl
   refine take_ (i := 1) (N := some 41) (v := ?_) (a' := ?_) #[I, I, O, I, O, O, I, O, O, O, O, O, O] rfl rfl (take_ofW HT_.out HW_.out (by kernel_rfl)) (fun _ _ _ h => h) (Or.inl ⟨by rfl, ?_⟩) hHeld ?_ ?_
   rotate_left
   ·rintro w' ⟨s0, s1, s2, s3, s4, s5⟩
    go_simp
    with_reducible rfl
   rotate_left
   ·simp only [Act.put, sA, sZ, sS, i64_w, i32_w]
    rfl
   refine one_ (i := 2) (N := some 42) #[I, I, I, I, O, O, I, O, O, O, O, O, O] rfl rfl (one_of HT_.out (by kernel_rfl)) (by decide) (fun K hK => ?_)
   refine goes_ Tryd.func27 (by kernel_rfl) rfl #[.int .i64 8192, .int .i64 2] (by rfl) rfl rfl kA ?_
   with_reducible refine (field_Put.calls kj8 8192 2 t121 _ A53.out).mono ?_
   rintro e w60 ⟨rfl, hb⟩
   refine ⟨_, rfl, ?_⟩
   replace BK116 := As (blk_below (kb BK116.out) hb)
   replace BK117 := As (blk_below (kb BK117.out) hb)
   replace BK118 := As (blk_below (kb BK118.out) hb)
   replace HB := As (below_step (kB3 HB.out GE116.out GE117.out GE118.out) hb)
   (try clear hb)
   (try clear hb2)
   (try clear hk)
   (try clear hi)
   refine hK.out _ _ ⟨kC BK116.out 0, kC BK116.out 1, kC BK116.out 2, kC BK117.out 0, kC BK117.out 1, kC BK117.out 2⟩ (fun hHeld => ?_)
   clear hK K
   refine nP ?_
   refine one_ (i := 4) (N := some 44) #[I, I, I, I, I, O, I, O, O, O, O, O, O] rfl rfl (one_of HT_.out (by kernel_rfl)) (by decide) (fun K hK => ?_)
   refine goes_ Tryd.func27 (by kernel_rfl) rfl #[.int .i64 (rd ([0, 2048, 34525, 25944] : List Int) a2), .int .i64 2] (by rfl) rfl rfl kA ?_
   with_reducible refine (field_Put.calls kj8 (rd ([0, 2048, 34525, 25944] : List Int) a2) 2 t122 _ A54.out).mono ?_
   rintro e w61 ⟨rfl, hb⟩
   refine ⟨_, rfl, ?_⟩
   replace BK116 := As (blk_below (kb BK116.out) hb)
   replace BK117 := As (blk_below (kb BK117.out) hb)
   replace BK118 := As (blk_below (kb BK118.out) hb)
   replace HB := As (below_step (kB3 HB.out GE116.out GE117.out GE118.out) hb)
   (try clear hb)
   (try clear hb2)
   (try clear hk)
   (try clear hi)
   refine hK.out _ _ ⟨kC BK116.out 0, kC BK116.out 1, kC BK116.out 2, kC BK117.out 0, kC BK117.out 1, kC BK117.out 2⟩ (fun hHeld => ?_)
   clear hK K
   refine nP ?_
   refine kP 5 45 #[I, I, I, I, I, I, I, O, O, O, O, O, O] ?_ (any_of HT_.out (by kernel_rfl))
   refine kP 7 47 #[I, I, I, I, I, I, I, I, O, O, O, O, O] ?_ (any_of HT_.out (by kernel_rfl))
   refine one_ (i := 8) (N := some 48) #[I, I, I, I, I, I, I, I, I, O, O, O, O] rfl rfl (one_of HT_.out (by kernel_rfl)) (by decide) (fun K hK => ?_)
   refine goes_ Tryd.func28 (by kernel_rfl) rfl #[.agg #[.bool b0, .int .u64 b1, .int .u64 b2], .agg #[.bool d0, .int .u64 d1, .int .u64 d2], .int .i64 47, .string ((t121 ++ t122) ++ (t120 ++ a3))] (by rfl) rfl rfl kA ?_
   with_reducible refine (tunnel_wrapped.calls b0 b1 b2 d0 d1 d2 47 ((t121 ++ t122) ++ (t120 ++ a3)) t123 t124 t125 t126 t127 t128 t129 t130 t131 t132 _ A57.out).mono ?_
   rintro e w62 ⟨rfl, hb⟩
   refine ⟨_, rfl, ?_⟩
   replace BK116 := As (blk_below (kb BK116.out) hb)
   replace BK117 := As (blk_below (kb BK117.out) hb)
   replace BK118 := As (blk_below (kb BK118.out) hb)
   replace HB := As (below_step (kB3 HB.out GE116.out GE117.out GE118.out) hb)
   (try clear hb)
   (try clear hb2)
   (try clear hk)
   (try clear hi)
   refine hK.out _ _ ⟨kC BK116.out 0, kC BK116.out 1, kC BK116.out 2, kC BK117.out 0, kC BK117.out 1, kC BK117.out 2⟩ (fun hHeld => ?_)
   clear hK K
   refine nP ?_
   refine kP 9 49 #[I, I, I, I, I, I, I, I, I, I, O, O, O] ?_ (any_of HT_.out (by kernel_rfl))
   refine kP 10 50 #[I, I, I, I, I, I, I, I, I, I, I, O, O] ?_ (any_of HT_.out (by kernel_rfl))
   refine one_ (i := 11) (N := none) #[I, I, I, I, I, I, I, I, I, I, I, I, O] rfl rfl (one_of HT_.out (by kernel_rfl)) (by decide) (fun K hK => ?_)
   have hs63 : w62.cell? ⟨gb118, 0, none⟩ = some (.bool false) := (blk_cell BK118.out 0).trans rfl
   have hfs63 := blk_frozen BK118.out 0
   have hns63_0 := NB116_118.out
   have hns63_1 := NB117_118.out
   have hms63_0 := NB118_116.out
   have hms63_1 := NB118_117.out
   have hs64 : w62.cell? ⟨gb118, 1, none⟩ = some (.int .u64 0) := (blk_cell BK118.out 1).trans rfl
   have hfs64 := blk_frozen BK118.out 1
   have hns64_0 := NB116_118.out
   have hns64_1 := NB117_118.out
   have hms64_0 := NB118_116.out
   have hms64_1 := NB118_117.out
   have hs65 : w62.cell? ⟨gb118, 2, none⟩ = some (.int .u64 0) := (blk_cell BK118.out 2).trans rfl
   have hfs65 := blk_frozen BK118.out 2
   have hns65_0 := NB116_118.out
   have hns65_1 := NB117_118.out
   have hms65_0 := NB118_116.out
   have hms65_1 := NB118_117.out
   have hs66 : w62.cell? ⟨gb118, 3, none⟩ = some (.bool false) := (blk_cell BK118.out 3).trans rfl
   have hfs66 := blk_frozen BK118.out 3
   have hns66_0 := NB116_118.out
   have hns66_1 := NB117_118.out
   have hms66_0 := NB118_116.out
   have hms66_1 := NB118_117.out
   have hs67 : w62.cell? ⟨gb118, 4, none⟩ = some (.int .u64 0) := (blk_cell BK118.out 4).trans rfl
   have hfs67 := blk_frozen BK118.out 4
   have hns67_0 := NB116_118.out
   have hns67_1 := NB117_118.out
   have hms67_0 := NB118_116.out
   have hms67_1 := NB118_117.out
   have hs68 : w62.cell? ⟨gb118, 5, none⟩ = some (.int .u64 0) := (blk_cell BK118.out 5).trans rfl
   have hfs68 := blk_frozen BK118.out 5
   have hns68_0 := NB116_118.out
   have hns68_1 := NB117_118.out
   have hms68_0 := NB118_116.out
   have hms68_1 := NB118_117.out
   have hs69 : w62.cell? ⟨gb118, 6, none⟩ = some (.int .i64 0) := (blk_cell BK118.out 6).trans rfl
   have hfs69 := blk_frozen BK118.out 6
   have hns69_0 := NB116_118.out
   have hns69_1 := NB117_118.out
   have hms69_0 := NB118_116.out
   have hms69_1 := NB118_117.out
   have hs70 : w62.cell? ⟨gb118, 7, none⟩ = some (.int .i64 0) := (blk_cell BK118.out 7).trans rfl
   have hfs70 := blk_frozen BK118.out 7
   have hns70_0 := NB116_118.out
   have hns70_1 := NB117_118.out
   have hms70_0 := NB118_116.out
   have hms70_1 := NB118_117.out
   have hs71 : w62.cell? ⟨gb118, 8, none⟩ = some (.string (⟨#[]⟩ : ByteArray)) := (blk_cell BK118.out 8).trans rfl
   have hfs71 := blk_frozen BK118.out 8
   have hns71_0 := NB116_118.out
   have hns71_1 := NB117_118.out
   have hms71_0 := NB118_116.out
   have hms71_1 := NB118_117.out
   refine skip_ (w1 := ?_) (by rfl) rfl ?_ ?_
   rotate_left
   ·go_simp
    rfl
   refine hK.out _ _ ⟨((cell_far (p := ⟨gb118, _, none⟩) NB116_118.out _).trans (((cell_far (p := ⟨gb118, _, none⟩) NB116_118.out _).trans (((cell_far (p := ⟨gb118, _, none⟩) NB116_118.out _).trans (((cell_far (p := ⟨gb118, _, none⟩) NB116_118.out _).trans (((cell_far (p := ⟨gb118, _, none⟩) NB116_118.out _).trans (((cell_far (p := ⟨gb118, _, none⟩) NB116_118.out _).trans (((cell_far (p := ⟨gb118, _, none⟩) NB116_118.out _).trans (((cell_far (p := ⟨gb118, _, none⟩) NB116_118.out _).trans (kF NB116_118.out hHeld.1)))))))))))))))), ((cell_far (p := ⟨gb118, _, none⟩) NB116_118.out _).trans (((cell_far (p := ⟨gb118, _, none⟩) NB116_118.out _).trans (((cell_far (p := ⟨gb118, _, none⟩) NB116_118.out _).trans (((cell_far (p := ⟨gb118, _, none⟩) NB116_118.out _).trans (((cell_far (p := ⟨gb118, _, none⟩) NB116_118.out _).trans (((cell_far (p := ⟨gb118, _, none⟩) NB116_118.out _).trans (((cell_far (p := ⟨gb118, _, none⟩) NB116_118.out _).trans (((cell_far (p := ⟨gb118, _, none⟩) NB116_118.out _).trans (kF NB116_118.out hHeld.2.1)))))))))))))))), ((cell_far (p := ⟨gb118, _, none⟩) NB116_118.out _).trans (((cell_far (p := ⟨gb118, _, none⟩) NB116_118.out _).trans (((cell_far (p := ⟨gb118, _, none⟩) NB116_118.out _).trans (((cell_far (p := ⟨gb118, _, none⟩) NB116_118.out _).trans (((cell_far (p := ⟨gb118, _, none⟩) NB116_118.out _).trans (((cell_far (p := ⟨gb118, _, none⟩) NB116_118.out _).trans (((cell_far (p := ⟨gb118, _, none⟩) NB116_118.out _).trans (((cell_far (p := ⟨gb118, _, none⟩) NB116_118.out _).trans (kF NB116_118.out hHeld.2.2.1)))))))))))))))), ((cell_far (p := ⟨gb118, _, none⟩) NB117_118.out _).trans (((cell_far (p := ⟨gb118, _, none⟩) NB117_118.out _).trans (((cell_far (p := ⟨gb118, _, none⟩) NB117_118.out _).trans (((cell_far (p := ⟨gb118, _, none⟩) NB117_118.out _).trans (((cell_far (p := ⟨gb118, _, none⟩) NB117_118.out _).trans (((cell_far (p := ⟨gb118, _, none⟩) NB117_118.out _).trans (((cell_far (p := ⟨gb118, _, none⟩) NB117_118.out _).trans (((cell_far (p := ⟨gb118, _, none⟩) NB117_118.out _).trans (kF NB117_118.out hHeld.2.2.2.1)))))))))))))))), ((cell_far (p := ⟨gb118, _, none⟩) NB117_118.out _).trans (((cell_far (p := ⟨gb118, _, none⟩) NB117_118.out _).trans (((cell_far (p := ⟨gb118, _, none⟩) NB117_118.out _).trans (((cell_far (p := ⟨gb118, _, none⟩) NB117_118.out _).trans (((cell_far (p := ⟨gb118, _, none⟩) NB117_118.out _).trans (((cell_far (p := ⟨gb118, _, none⟩) NB117_118.out _).trans (((cell_far (p := ⟨gb118, _, none⟩) NB117_118.out _).trans (((cell_far (p := ⟨gb118, _, none⟩) NB117_118.out _).trans (kF NB117_118.out hHeld.2.2.2.2.1)))))))))))))))), ((cell_far (p := ⟨gb118, _, none⟩) NB117_118.out _).trans (((cell_far (p := ⟨gb118, _, none⟩) NB117_118.out _).trans (((cell_far (p := ⟨gb118, _, none⟩) NB117_118.out _).trans (((cell_far (p := ⟨gb118, _, none⟩) NB117_118.out _).trans (((cell_far (p := ⟨gb118, _, none⟩) NB117_118.out _).trans (((cell_far (p := ⟨gb118, _, none⟩) NB117_118.out _).trans (((cell_far (p := ⟨gb118, _, none⟩) NB117_118.out _).trans (((cell_far (p := ⟨gb118, _, none⟩) NB117_118.out _).trans (kF NB117_118.out hHeld.2.2.2.2.2))))))))))))))))⟩ (fun hHeld => ?_)
   clear hK K
   refine kP 12 13 #[I, I, I, I, I, I, I, I, I, I, I, I, I] ?_ (any_of HT_.out (by kernel_rfl))
   refine done_ (done_of HT_.out (by kernel_rfl)) ?_
   try go_wp2
   refine bodyPost_ret (results_ct rfl _ _ gb118 30 #[.bool t123, .int .u64 t124, .int .u64 t125, .bool t126, .int .u64 t127, .int .u64 t128, .int .i64 t129, .int .i64 t130, .string t131] (0, 0) _ rfl (by refine kb ?_; exact blk_all_9 (kb BK118.out) (by rfl)) Tryd.underlying30 rfl (by kernel_rfl)) rfl ?_
   exact ⟨kE, by exact kB3 HB.out GE116.out GE117.out GE118.out⟩
 replace c8 := Bool.eq_false_iff.mpr c8
 subst c8
 rw [if_neg (show ¬ (false = true) by decide)] at H
 simp only [Option.some.injEq, Prod.mk.injEq] at H
 obtain ⟨rfl, rfl, rfl, rfl, rfl, rfl, rfl, rfl, rfl, rfl⟩ := H
 go_enter Tryd.func12, Tryd.ntmps12
 go_wp2_with (first | ((with_reducible refine gate_dst (N := 6) rfl ?_); refine box_event rfl (N := 6) rfl (cs := #[.bool b0, .int .u64 b1, .int .u64 b2]) (t := 24) kG ?_; intro gb116 hg w72 hbox hb; have BK116 := As (hbox); have GW116 := As (gS hg (below_size (kB HB.out))); have GE116 := As (gS hg (below_size (kB HB.out))); replace HB := As (below_step (kB HB.out) hb); clear hb hbox hg) | ((with_reducible refine gate_dst (N := 7) rfl ?_); refine box_event rfl (N := 7) rfl (cs := #[.bool d0, .int .u64 d1, .int .u64 d2]) (t := 24) kG ?_; intro gb117 hg w73 hbox hb; have BK117 := As (hbox); have GW117 := As (gS hg (below_size (kB1 HB.out GE116.out))); have GE117 := As (gS hg (below_size (kB1 HB.out GE116.out))); replace HB := As (below_step (kB1 HB.out GE116.out) hb); have NB116_117 := As (gN hg (blk_lt (kb BK116.out))); have NB117_116 := As (gM hg (blk_lt (kb BK116.out))); replace BK116 := As (blk_below (kb BK116.out) hb); clear hb hbox hg) | ((with_reducible refine gate_dst (N := 12) rfl ?_); refine box_event rfl (N := 12) rfl (cs := #[.bool false, .int .u64 0, .int .u64 0, .bool false, .int .u64 0, .int .u64 0, .int .i64 0, .int .i64 0, .string (⟨#[]⟩ : ByteArray)]) (t := 30) kG ?_; intro gb118 hg w74 hbox hb; have BK118 := As (hbox); have GW118 := As (gS hg (below_size (kB2 HB.out GE116.out GE117.out))); have GE118 := As (gS hg (below_size (kB2 HB.out GE116.out GE117.out))); replace HB := As (below_step (kB2 HB.out GE116.out GE117.out) hb); have NB116_118 := As (gN hg (blk_lt (kb BK116.out))); have NB118_116 := As (gM hg (blk_lt (kb BK116.out))); replace BK116 := As (blk_below (kb BK116.out) hb); have NB117_118 := As (gN hg (blk_lt (kb BK117.out))); have NB118_117 := As (gM hg (blk_lt (kb BK117.out))); replace BK117 := As (blk_below (kb BK117.out) hb); clear hb hbox hg; have hnb75 := NB116_117.out; have hnc75 := NB117_116.out; have hnb76 := NB116_118.out; have hnc76 := NB118_116.out; have hcz77_0 := cells_3 BK116.out; have hfz77_0 := fun j_ => blk_frozen BK116.out j_; have hnb78 := NB117_118.out; have hnc78 := NB118_117.out; have hcz79_0 := cells_3 BK117.out; have hfz79_0 := fun j_ => blk_frozen BK117.out j_) | ((with_reducible refine gate_callee (f := 26) rfl ?_); refine goesL_ (some 20) rfl rfl Tryd.func26 (by kernel_rfl) rfl #[.agg #[.bool b0, .int .u64 b1, .int .u64 b2], .agg #[.bool d0, .int .u64 d1, .int .u64 d2]] rfl kA ?_; (with_reducible refine (tunnel_related.calls b0 b1 b2 d0 d1 d2 false _ A7.out).mono ?_); rintro e w80 ⟨rfl, hb⟩; refine ⟨_, rfl, ?_⟩; replace BK116 := As (blk_below (kb BK116.out) hb); replace BK117 := As (blk_below (kb BK117.out) hb); replace BK118 := As (blk_below (kb BK118.out) hb); replace HB := As (below_step (kB3 HB.out GE116.out GE117.out GE118.out) hb); (try clear hb)) | ((with_reducible refine gate_store (t := 30) (p := 12) rfl ?_); refine store_rowev_9 gb118 (.bool false) (.int .u64 0) (.int .u64 0) (.bool false) (.int .u64 0) (.int .u64 0) (.int .i64 0) (.int .i64 0) (.string (⟨#[]⟩ : ByteArray)) rfl (t := 30) (p := 12) (v := _) rfl rfl rfl rfl (t' := 30) (kb BK118.out) (by rfl) (by kernel_rfl) (by rfl) ?_))
 refine bodyPost_ret (results_ct rfl _ _ gb118 30 #[.bool false, .int .u64 0, .int .u64 0, .bool false, .int .u64 0, .int .u64 0, .int .i64 0, .int .i64 0, .string (⟨#[]⟩ : ByteArray)] (0, 0) _ rfl (by refine kb ?_; exact blk_all_9 (kb BK118.out) (by rfl)) Tryd.underlying30 rfl (by kernel_rfl)) rfl ?_
 exact ⟨kE, by exact kB3 HB.out GE116.out GE117.out GE118.out⟩

/-! ### tunnel_kindOf: function 48 -/
def tunnel_kindOf.f (a0 : Int) : Option (Int) := if a0 = 2048 then (some 1) else (if a0 = 34525 then (some 2) else (if a0 = 25944 then (some 3) else (some 0)))
set_option maxHeartbeats 8000000 in
set_option maxRecDepth 100000 in
theorem tunnel_kindOf.calls (a0 : Int) (r : Int) (w : World) (h : tunnel_kindOf.f a0 = some r) :
  Calls Tryd.prog 48 #[.int .i64 a0] w fun e w' => e = .returned (.int .i64 r) ∧ Drawn0 w w' := by
 have H : (if a0 = 2048 then (some 1) else (if a0 = 34525 then (some 2) else (if a0 = 25944 then (some 3) else (some 0)))) = some r := h
 clear h
 by_cases c2 : a0 = 2048
 ·rw [if_pos c2] at H
  have c2b0 : (a0 == 2048) = true := beq_iff_eq.mpr c2
  have c2b1 : (a0 != 2048) = false := bne_eq_false_iff_eq.mpr c2
  clear c2
  obtain rfl := Option.some.inj H
  go_enter Tryd.func48, Tryd.ntmps48
  go_wp2
  go_ret
  exact ⟨by first | rfl | (simp; done) | (simp [*]; done), by repeat (first | exact Drawn0.refl _ | apply Drawn0.step)⟩
 rw [if_neg c2] at H
 have c2b0 : (a0 == 2048) = false := beq_eq_false_iff_ne.mpr c2
 have c2b1 : (a0 != 2048) = true := bne_iff_ne.mpr c2
 by_cases c3 : a0 = 34525
 ·rw [if_pos c3] at H
  have c3b0 : (a0 == 34525) = true := beq_iff_eq.mpr c3
  have c3b1 : (a0 != 34525) = false := bne_eq_false_iff_eq.mpr c3
  clear c3
  obtain rfl := Option.some.inj H
  go_enter Tryd.func48, Tryd.ntmps48
  go_wp2
  go_ret
  exact ⟨by first | rfl | (simp; done) | (simp [*]; done), by repeat (first | exact Drawn0.refl _ | apply Drawn0.step)⟩
 rw [if_neg c3] at H
 have c3b0 : (a0 == 34525) = false := beq_eq_false_iff_ne.mpr c3
 have c3b1 : (a0 != 34525) = true := bne_iff_ne.mpr c3
 by_cases c4 : a0 = 25944
 ·rw [if_pos c4] at H
  have c4b0 : (a0 == 25944) = true := beq_iff_eq.mpr c4
  have c4b1 : (a0 != 25944) = false := bne_eq_false_iff_eq.mpr c4
  clear c4
  obtain rfl := Option.some.inj H
  go_enter Tryd.func48, Tryd.ntmps48
  go_wp2
  go_ret
  exact ⟨by first | rfl | (simp; done) | (simp [*]; done), by repeat (first | exact Drawn0.refl _ | apply Drawn0.step)⟩
 rw [if_neg c4] at H
 have c4b0 : (a0 == 25944) = false := beq_eq_false_iff_ne.mpr c4
 have c4b1 : (a0 != 25944) = true := bne_iff_ne.mpr c4
 obtain rfl := Option.some.inj H
 go_enter Tryd.func48, Tryd.ntmps48
 go_wp2
 go_ret
 exact ⟨by first | rfl | (simp; done) | (simp [*]; done), by repeat (first | exact Drawn0.refl _ | apply Drawn0.step)⟩

end Go.Proofs.YtocobalkikkhlaaDoor.X
-- short
-- short2
