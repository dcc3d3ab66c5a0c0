/- Functions and their walks, printed by xprint.py. -/
import Derived.Test.YtocobalkikkhlaaDoorX0
import Derived.Test.YtocobalkikkhlaaDoorX5
import Derived.Test.YtocobalkikkhlaaDoorX11
import Derived.Test.YtocobalkikkhlaaDoorX12
import Derived.Test.YtocobalkikkhlaaDoorX15
import Derived.Test.YtocobalkikkhlaaDoorX17
namespace Go.Proofs.YtocobalkikkhlaaDoor.X
open Go.RowKit Go.Proofs.YtocobalkikkhlaaDoorW.PrintWords Go.Proofs.YtocobalkikkhlaaDoorW.PrintLast Go.Proofs.YtocobalkikkhlaaDoorW.PrintMore
attribute [local go_sem] max2_int min2_int max_two min_two max_three min_three max_four min_four   -- for this text's walks alone
set_option linter.unusedVariables false
set_option linter.unusedSimpArgs false

/-! ### intrusionlaw17_unwraps: function 19 -/
def intrusionlaw17_unwraps.f (k : Nat) (b0 : Bool) (b1 : Int) (b2 : Int) (b3 : Bool) (b4 : Int) (b5 : Int) (b6 : Int) (b7 : Int) (b8 : ByteArray) (a1 : Int) (a2 : ByteArray) : Option (Bool) := (tunnel_Inner.f k b0 b1 b2 b3 b4 b5 b6 b7 b8).bind fun bt562 => (if bt562.1 = a1 then (if bt562.2.1.toList = a2.toList then (if bt562.2.2 = 0 then (some (b7 == 64)) else (some false)) else (some false)) else (some false))
theorem intrusionlaw17_unwraps.mono : ∀ a0 a1 a2 a3 a4 a5 a6 a7 a8 a9 a10 k, LeO (intrusionlaw17_unwraps.f k a0 a1 a2 a3 a4 a5 a6 a7 a8 a9 a10) (intrusionlaw17_unwraps.f (k + 1) a0 a1 a2 a3 a4 a5 a6 a7 a8 a9 a10) := by
 intro a0 a1 a2 a3 a4 a5 a6 a7 a8 a9 a10 k
 unfold intrusionlaw17_unwraps.f
 repeat' first | with_reducible first | apply tunnel_Inner.mono | apply LeO.refl | apply LeO.none | refine LeO.ite ?_ ?_ | refine LeO.bind ?_ (fun _ => ?_)
set_option maxHeartbeats 8000000 in
set_option maxRecDepth 100000 in
theorem intrusionlaw17_unwraps.calls (k : Nat) (b0 : Bool) (b1 : Int) (b2 : Int) (b3 : Bool) (b4 : Int) (b5 : Int) (b6 : Int) (b7 : Int) (b8 : ByteArray) (a1 : Int) (a2 : ByteArray) (r : Bool) (w : World) (hLd : Laid w) (h : intrusionlaw17_unwraps.f k b0 b1 b2 b3 b4 b5 b6 b7 b8 a1 a2 = some r) :
  Calls Tryd.prog 19 #[.agg #[.bool b0, .int .u64 b1, .int .u64 b2, .bool b3, .int .u64 b4, .int .u64 b5, .int .i64 b6, .int .i64 b7, .string b8], .int .i64 a1, .string a2] w fun e w' => e = .returned (.bool r) ∧ Below w.heap.size w w' := by
 have hu30 := Tryd.underlying30
 have HLD := As hLd
 clear hLd
 have HB := As (Below.refl w.heap.size w)
 have H : ((tunnel_Inner.f k b0 b1 b2 b3 b4 b5 b6 b7 b8).bind fun bt562 => (if bt562.1 = a1 then (if bt562.2.1.toList = a2.toList then (if bt562.2.2 = 0 then (some (b7 == 64)) else (some false)) else (some false)) else (some false))) = some r := h
 clear h
 replace H := Option.bind_eq_some_iff.mp H
 obtain ⟨⟨t562, t563, t564⟩, A40, H⟩ := H
 replace H : (if t562 = a1 then (if t563.toList = a2.toList then (if t564 = 0 then (some (b7 == 64)) else (some false)) else (some false)) else (some false)) = some r := H
 have A4 := As A40
 clear A40
 by_cases c5 : t562 = a1
 ·rw [if_pos c5] at H
  have c5b0 : (t562 == a1) = true := beq_iff_eq.mpr c5
  have c5b1 : (t562 != a1) = false := bne_eq_false_iff_eq.mpr c5
  clear c5
  by_cases c6 : t563.toList = a2.toList
  ·rw [if_pos c6] at H
   have c6b0 : (t563.toList == a2.toList) = true := beq_iff_eq.mpr c6
   have c6b1 : (t563.toList != a2.toList) = false := bne_eq_false_iff_eq.mpr c6
   clear c6
   by_cases c7 : t564 = 0
   ·rw [if_pos c7] at H
    have c7b0 : (t564 == 0) = true := beq_iff_eq.mpr c7
    have c7b1 : (t564 != 0) = false := bne_eq_false_iff_eq.mpr c7
    clear c7
    obtain rfl := Option.some.inj H
    go_enter Tryd.func19, Tryd.ntmps19
    go_wp2_with (first | ((with_reducible refine gate_dst (N := 3) rfl ?_); refine box_event rfl (N := 3) rfl (cs := #[.bool b0, .int .u64 b1, .int .u64 b2, .bool b3, .int .u64 b4, .int .u64 b5, .int .i64 b6, .int .i64 b7, .string b8]) (t := 30) kG ?_; intro gb561 hg w8 hbox hb; have BK561 := As (hbox); have GW561 := As ((by rw [hg]; exact (below_size (kB HB.out)) : w.heap.size ≤ gb561)); have GE561 := As ((by rw [hg]; exact (below_size (kB HB.out)) : w.heap.size ≤ gb561)); replace HB := As (below_step (kB HB.out) hb); clear hb hbox hg) | ((with_reducible refine gate_dst (N := 11) rfl ?_); (try (refine gate_guard (by rfl) ?_; dsimp only)); refine wpList_load_row ?hgd 30 _ rfl gb561 rfl 30 #[.bool b0, .int .u64 b1, .int .u64 b2, .bool b3, .int .u64 b4, .int .u64 b5, .int .i64 b6, .int .i64 b7, .string b8] (0, 0) _ (kb BK561.out) Tryd.underlying30 rfl (by kernel_rfl) ?_; (case hgd => rfl)) | ((with_reducible refine gate_callee (f := 18) rfl ?_); refine goesL_ (some 12) rfl rfl Tryd.func18 (by kernel_rfl) rfl #[.agg #[.bool b0, .int .u64 b1, .int .u64 b2, .bool b3, .int .u64 b4, .int .u64 b5, .int .i64 b6, .int .i64 b7, .string b8]] rfl kA ?_; (with_reducible refine (tunnel_Inner.calls k b0 b1 b2 b3 b4 b5 b6 b7 b8 t562 t563 t564 _ ?side1 A4.out).mono ?_); (case side1 => exact laid_below HLD.out (kB1 HB.out GE561.out)); rintro e w9 ⟨rfl, hb⟩; refine ⟨_, rfl, ?_⟩; replace BK561 := As (blk_below (kb BK561.out) hb); replace HB := As (below_step (kB1 HB.out GE561.out) hb); (try clear hb); have hcz10_0 := cells_9 BK561.out; have hfz10_0 := fun j_ => blk_frozen BK561.out j_))
    go_ret
    exact ⟨kE, by exact kB1 HB.out GE561.out⟩
   rw [if_neg c7] at H
   have c7b0 : (t564 == 0) = false := beq_eq_false_iff_ne.mpr c7
   have c7b1 : (t564 != 0) = true := bne_iff_ne.mpr c7
   obtain rfl := Option.some.inj H
   go_enter Tryd.func19, Tryd.ntmps19
   go_wp2_with (first | ((with_reducible refine gate_dst (N := 3) rfl ?_); refine box_event rfl (N := 3) rfl (cs := #[.bool b0, .int .u64 b1, .int .u64 b2, .bool b3, .int .u64 b4, .int .u64 b5, .int .i64 b6, .int .i64 b7, .string b8]) (t := 30) kG ?_; intro gb561 hg w11 hbox hb; have BK561 := As (hbox); have GW561 := As ((by rw [hg]; exact (below_size (kB HB.out)) : w.heap.size ≤ gb561)); have GE561 := As ((by rw [hg]; exact (below_size (kB HB.out)) : w.heap.size ≤ gb561)); replace HB := As (below_step (kB HB.out) hb); clear hb hbox hg) | ((with_reducible refine gate_dst (N := 11) rfl ?_); (try (refine gate_guard (by rfl) ?_; dsimp only)); refine wpList_load_row ?hgd 30 _ rfl gb561 rfl 30 #[.bool b0, .int .u64 b1, .int .u64 b2, .bool b3, .int .u64 b4, .int .u64 b5, .int .i64 b6, .int .i64 b7, .string b8] (0, 0) _ (kb BK561.out) Tryd.underlying30 rfl (by kernel_rfl) ?_; (case hgd => rfl)) | ((with_reducible refine gate_callee (f := 18) rfl ?_); refine goesL_ (some 12) rfl rfl Tryd.func18 (by kernel_rfl) rfl #[.agg #[.bool b0, .int .u64 b1, .int .u64 b2, .bool b3, .int .u64 b4, .int .u64 b5, .int .i64 b6, .int .i64 b7, .string b8]] rfl kA ?_; (with_reducible refine (tunnel_Inner.calls k b0 b1 b2 b3 b4 b5 b6 b7 b8 t562 t563 t564 _ ?side1 A4.out).mono ?_); (case side1 => exact laid_below HLD.out (kB1 HB.out GE561.out)); rintro e w12 ⟨rfl, hb⟩; refine ⟨_, rfl, ?_⟩; replace BK561 := As (blk_below (kb BK561.out) hb); replace HB := As (below_step (kB1 HB.out GE561.out) hb); (try clear hb)))
   go_ret
   exact ⟨kE, by exact kB1 HB.out GE561.out⟩
  rw [if_neg c6] at H
  have c6b0 : (t563.toList == a2.toList) = false := beq_eq_false_iff_ne.mpr c6
  have c6b1 : (t563.toList != a2.toList) = true := bne_iff_ne.mpr c6
  obtain rfl := Option.some.inj H
  go_enter Tryd.func19, Tryd.ntmps19
  go_wp2_with (first | ((with_reducible refine gate_dst (N := 3) rfl ?_); refine box_event rfl (N := 3) rfl (cs := #[.bool b0, .int .u64 b1, .int .u64 b2, .bool b3, .int .u64 b4, .int .u64 b5, .int .i64 b6, .int .i64 b7, .string b8]) (t := 30) kG ?_; intro gb561 hg w13 hbox hb; have BK561 := As (hbox); have GW561 := As ((by rw [hg]; exact (below_size (kB HB.out)) : w.heap.size ≤ gb561)); have GE561 := As ((by rw [hg]; exact (below_size (kB HB.out)) : w.heap.size ≤ gb561)); replace HB := As (below_step (kB HB.out) hb); clear hb hbox hg) | ((with_reducible refine gate_dst (N := 11) rfl ?_); (try (refine gate_guard (by rfl) ?_; dsimp only)); refine wpList_load_row ?hgd 30 _ rfl gb561 rfl 30 #[.bool b0, .int .u64 b1, .int .u64 b2, .bool b3, .int .u64 b4, .int .u64 b5, .int .i64 b6, .int .i64 b7, .string b8] (0, 0) _ (kb BK561.out) Tryd.underlying30 rfl (by kernel_rfl) ?_; (case hgd => rfl)) | ((with_reducible refine gate_callee (f := 18) rfl ?_); refine goesL_ (some 12) rfl rfl Tryd.func18 (by kernel_rfl) rfl #[.agg #[.bool b0, .int .u64 b1, .int .u64 b2, .bool b3, .int .u64 b4, .int .u64 b5, .int .i64 b6, .int .i64 b7, .string b8]] rfl kA ?_; (with_reducible refine (tunnel_Inner.calls k b0 b1 b2 b3 b4 b5 b6 b7 b8 t562 t563 t564 _ ?side1 A4.out).mono ?_); (case side1 => exact laid_below HLD.out (kB1 HB.out GE561.out)); rintro e w14 ⟨rfl, hb⟩; refine ⟨_, rfl, ?_⟩; replace BK561 := As (blk_below (kb BK561.out) hb); replace HB := As (below_step (kB1 HB.out GE561.out) hb); (try clear hb)))
  go_ret
  exact ⟨kE, by exact kB1 HB.out GE561.out⟩
 rw [if_neg c5] at H
 have c5b0 : (t562 == a1) = false := beq_eq_false_iff_ne.mpr c5
 have c5b1 : (t562 != a1) = true := bne_iff_ne.mpr c5
 obtain rfl := Option.some.inj H
 go_enter Tryd.func19, Tryd.ntmps19
 go_wp2_with (first | ((with_reducible refine gate_dst (N := 3) rfl ?_); refine box_event rfl (N := 3) rfl (cs := #[.bool b0, .int .u64 b1, .int .u64 b2, .bool b3, .int .u64 b4, .int .u64 b5, .int .i64 b6, .int .i64 b7, .string b8]) (t := 30) kG ?_; intro gb561 hg w15 hbox hb; have BK561 := As (hbox); have GW561 := As ((by rw [hg]; exact (below_size (kB HB.out)) : w.heap.size ≤ gb561)); have GE561 := As ((by rw [hg]; exact (below_size (kB HB.out)) : w.heap.size ≤ gb561)); replace HB := As (below_step (kB HB.out) hb); clear hb hbox hg) | ((with_reducible refine gate_dst (N := 11) rfl ?_); (try (refine gate_guard (by rfl) ?_; dsimp only)); refine wpList_load_row ?hgd 30 _ rfl gb561 rfl 30 #[.bool b0, .int .u64 b1, .int .u64 b2, .bool b3, .int .u64 b4, .int .u64 b5, .int .i64 b6, .int .i64 b7, .string b8] (0, 0) _ (kb BK561.out) Tryd.underlying30 rfl (by kernel_rfl) ?_; (case hgd => rfl)) | ((with_reducible refine gate_callee (f := 18) rfl ?_); refine goesL_ (some 12) rfl rfl Tryd.func18 (by kernel_rfl) rfl #[.agg #[.bool b0, .int .u64 b1, .int .u64 b2, .bool b3, .int .u64 b4, .int .u64 b5, .int .i64 b6, .int .i64 b7, .string b8]] rfl kA ?_; (with_reducible refine (tunnel_Inner.calls k b0 b1 b2 b3 b4 b5 b6 b7 b8 t562 t563 t564 _ ?side1 A4.out).mono ?_); (case side1 => exact laid_below HLD.out (kB1 HB.out GE561.out)); rintro e w16 ⟨rfl, hb⟩; refine ⟨_, rfl, ?_⟩; replace BK561 := As (blk_below (kb BK561.out) hb); replace HB := As (below_step (kB1 HB.out GE561.out) hb); (try clear hb)))
 go_ret
 exact ⟨kE, by exact kB1 HB.out GE561.out⟩

/-! ### intrusionlaw17_TunnelRoundTrip: function 9 -/
mutual
def intrusionlaw17_TunnelRoundTrip.j0 : Nat → Int → ByteArray → Bool → Bool → Int → Int → Bool → Int → Int → Option (Bool)
 | 0, _, _, _, _, _, _, _, _, _ => none
 | k + 1, x1, x2, x43, x566000, x566001, x566002, x566003, x566004, x566005 => if x43 = true then (none) else ((tunnel_WrapVxlan.f k x566000 x566001 x566002 x566003 x566004 x566005 (wrap64 (Int.tmod (IntKind.u64.wrap (x1)) 16777216)) x2).bind fun bt580 => (if bt580.2.2.2.2.2.2.2.2.2 = 0 then ((intrusionlaw17_unwraps.f k bt580.1 bt580.2.1 bt580.2.2.1 bt580.2.2.2.1 bt580.2.2.2.2.1 bt580.2.2.2.2.2.1 bt580.2.2.2.2.2.2.1 bt580.2.2.2.2.2.2.2.1 bt580.2.2.2.2.2.2.2.2.1 3 x2).bind fun t591 => (intrusionlaw17_TunnelRoundTrip.j1 k x2 (!t591) x566000 x566001 x566002 x566003 x566004 x566005)) else (intrusionlaw17_TunnelRoundTrip.j1 k x2 false x566000 x566001 x566002 x566003 x566004 x566005)))
def intrusionlaw17_TunnelRoundTrip.j1 : Nat → ByteArray → Bool → Bool → Int → Int → Bool → Int → Int → Option (Bool)
 | 0, _, _, _, _, _, _, _, _ => none
 | k + 1, x2, x64, x566000, x566001, x566002, x566003, x566004, x566005 => if x64 = true then (none) else ((tunnel_WrapIp.f k x566000 x566001 x566002 x566003 x566004 x566005 x2).bind fun bt592 => (if bt592.2.2.2.2.2.2.2.2.2 = 0 then (if x2.toList = ([] : List UInt8) then (none) else (if 0 < (x2.size : Int) then ((intrusionlaw17_unwraps.f k bt592.1 bt592.2.1 bt592.2.2.1 bt592.2.2.2.1 bt592.2.2.2.2.1 bt592.2.2.2.2.2.1 bt592.2.2.2.2.2.2.1 bt592.2.2.2.2.2.2.2.1 bt592.2.2.2.2.2.2.2.2.1 (wrap64 ((wrap64 (Int.tdiv (wrap64 (bt x2 0)) 32)) - 1)) x2).bind fun t603 => (if t603 = true then ((intrusionlaw17_awake.f k).bind fun t604 => (some t604)) else (none))) else (none))) else ((intrusionlaw17_awake.f k).bind fun t605 => (some t605))))
end
def intrusionlaw17_TunnelRoundTrip.f (k : Nat) (b0 : Bool) (b1 : Int) (b2 : Int) (b3 : Bool) (b4 : Int) (b5 : Int) (a1 : Int) (a2 : ByteArray) : Option (Bool) := (intrusionlaw17_long.f a2).bind fun t566 => (if t566 = true then ((intrusionlaw17_awake.f k).bind fun t567 => (some t567)) else ((tunnel_WrapGre.f k b0 b1 b2 b3 b4 b5 (wrap64 ((wrap64 (Int.tmod (IntKind.u64.wrap (a1)) 3)) + 1)) a2 ((a1) % 4294967296) ((Int.tmod a1 2) == 0)).bind fun bt568 => (if bt568.2.2.2.2.2.2.2.2.2 = 0 then ((intrusionlaw17_unwraps.f k bt568.1 bt568.2.1 bt568.2.2.1 bt568.2.2.2.1 bt568.2.2.2.2.1 bt568.2.2.2.2.2.1 bt568.2.2.2.2.2.2.1 bt568.2.2.2.2.2.2.2.1 bt568.2.2.2.2.2.2.2.2.1 (wrap64 ((wrap64 (Int.tmod (IntKind.u64.wrap (a1)) 3)) + 1)) a2).bind fun t579 => (intrusionlaw17_TunnelRoundTrip.j0 k a1 a2 (!t579) b0 b1 b2 b3 b4 b5)) else (intrusionlaw17_TunnelRoundTrip.j0 k a1 a2 false b0 b1 b2 b3 b4 b5))))
theorem intrusionlaw17_TunnelRoundTrip.mono_l : ∀ k, (∀ y0 y1 y2 y3 y4 y5 y6 y7 y8, LeO (intrusionlaw17_TunnelRoundTrip.j0 k y0 y1 y2 y3 y4 y5 y6 y7 y8) (intrusionlaw17_TunnelRoundTrip.j0 (k + 1) y0 y1 y2 y3 y4 y5 y6 y7 y8)) ∧ (∀ y0 y1 y2 y3 y4 y5 y6 y7, LeO (intrusionlaw17_TunnelRoundTrip.j1 k y0 y1 y2 y3 y4 y5 y6 y7) (intrusionlaw17_TunnelRoundTrip.j1 (k + 1) y0 y1 y2 y3 y4 y5 y6 y7))
 | 0 => ⟨fun _ _ _ _ _ _ _ _ _ r h => by simp [intrusionlaw17_TunnelRoundTrip.j0] at h, fun _ _ _ _ _ _ _ _ r h => by simp [intrusionlaw17_TunnelRoundTrip.j1] at h⟩
 | k + 1 => by
  obtain ⟨ih0, ih1⟩ := intrusionlaw17_TunnelRoundTrip.mono_l k
  refine ⟨?_, ?_⟩
  ·intro y0 y1 y2 y3 y4 y5 y6 y7 y8
   unfold intrusionlaw17_TunnelRoundTrip.j0
   repeat' first | with_reducible first | apply ih0 | apply ih1 | apply intrusionlaw17_awake.mono | apply intrusionlaw17_unwraps.mono | apply tunnel_WrapGre.mono | apply tunnel_WrapIp.mono | apply tunnel_WrapVxlan.mono | apply LeO.refl | apply LeO.none | refine LeO.ite ?_ ?_ | refine LeO.bind ?_ (fun _ => ?_)
  intro y0 y1 y2 y3 y4 y5 y6 y7
  unfold intrusionlaw17_TunnelRoundTrip.j1
  repeat' first | with_reducible first | apply ih0 | apply ih1 | apply intrusionlaw17_awake.mono | apply intrusionlaw17_unwraps.mono | apply tunnel_WrapGre.mono | apply tunnel_WrapIp.mono | apply tunnel_WrapVxlan.mono | apply LeO.refl | apply LeO.none | refine LeO.ite ?_ ?_ | refine LeO.bind ?_ (fun _ => ?_)
theorem intrusionlaw17_TunnelRoundTrip.mono : ∀ a0 a1 a2 a3 a4 a5 a6 a7 k, LeO (intrusionlaw17_TunnelRoundTrip.f k a0 a1 a2 a3 a4 a5 a6 a7) (intrusionlaw17_TunnelRoundTrip.f (k + 1) a0 a1 a2 a3 a4 a5 a6 a7) := by
 intro a0 a1 a2 a3 a4 a5 a6 a7 k
 obtain ⟨ih0, ih1⟩ := intrusionlaw17_TunnelRoundTrip.mono_l k
 unfold intrusionlaw17_TunnelRoundTrip.f
 repeat' first | with_reducible first | apply ih0 | apply ih1 | apply intrusionlaw17_awake.mono | apply intrusionlaw17_unwraps.mono | apply tunnel_WrapGre.mono | apply tunnel_WrapIp.mono | apply tunnel_WrapVxlan.mono | apply LeO.refl | apply LeO.none | refine LeO.ite ?_ ?_ | refine LeO.bind ?_ (fun _ => ?_)
def intrusionlaw17_TunnelRoundTrip.T11 : Bool × List (List Nat × List Nat) := (true, [([], []), ([0], [0]), ([1], [1]), ([2], [2]), ([3, 2], [2, 3]), ([4, 2, 2], [2, 4]), ([5], [5]), ([5], [5]), ([7, 5], [5, 7]), ([8, 5], [5, 8]), ([9, 5], [5, 9]), ([10, 5], [5, 10]), ([5], [5]), ([6, 11, 12, 5, 5], [5, 6, 11, 12]), ([13, 5], [5, 13]), ([5, 14, 2], [2, 5, 14]), ([2, 15], [2, 15])])
def intrusionlaw17_TunnelRoundTrip.B11 : List Nat := [0, 1, 3, 7, 15, 31, 63, 63, 191, 447, 959, 1983, 63, 8191, 16383, 32767, 65535]
theorem intrusionlaw17_TunnelRoundTrip.tab11 : rtab .any (opsOf Tryd.f9 11) = intrusionlaw17_TunnelRoundTrip.T11 := by kernel_rfl
theorem intrusionlaw17_TunnelRoundTrip.bits11 : waitsOk intrusionlaw17_TunnelRoundTrip.T11.2 intrusionlaw17_TunnelRoundTrip.B11 = true := by kernel_rfl
set_option maxHeartbeats 8000000 in
set_option maxRecDepth 100000 in
theorem intrusionlaw17_TunnelRoundTrip.calls (k : Nat) (b0 : Bool) (b1 : Int) (b2 : Int) (b3 : Bool) (b4 : Int) (b5 : Int) (a1 : Int) (a2 : ByteArray) (r : Bool) (w : World) (hLd : Laid w) (h : intrusionlaw17_TunnelRoundTrip.f k b0 b1 b2 b3 b4 b5 a1 a2 = some r) :
  Calls Tryd.prog 9 #[.agg #[.bool b0, .int .u64 b1, .int .u64 b2, .bool b3, .int .u64 b4, .int .u64 b5], .int .i64 a1, .string a2] w fun e w' => e = .returned (.bool r) ∧ Below w.heap.size w w' := by
 have hu26 := Tryd.underlying26
 have hu24 := Tryd.underlying24
 have hu30 := Tryd.underlying30
 have HLD := As hLd
 clear hLd
 have HB := As (Below.refl w.heap.size w)
 have H : ((intrusionlaw17_long.f a2).bind fun t566 => (if t566 = true then ((intrusionlaw17_awake.f k).bind fun t567 => (some t567)) else ((tunnel_WrapGre.f k b0 b1 b2 b3 b4 b5 (wrap64 ((wrap64 (Int.tmod (IntKind.u64.wrap (a1)) 3)) + 1)) a2 ((a1) % 4294967296) ((Int.tmod a1 2) == 0)).bind fun bt568 => (if bt568.2.2.2.2.2.2.2.2.2 = 0 then ((intrusionlaw17_unwraps.f k bt568.1 bt568.2.1 bt568.2.2.1 bt568.2.2.2.1 bt568.2.2.2.2.1 bt568.2.2.2.2.2.1 bt568.2.2.2.2.2.2.1 bt568.2.2.2.2.2.2.2.1 bt568.2.2.2.2.2.2.2.2.1 (wrap64 ((wrap64 (Int.tmod (IntKind.u64.wrap (a1)) 3)) + 1)) a2).bind fun t579 => (intrusionlaw17_TunnelRoundTrip.j0 k a1 a2 (!t579) b0 b1 b2 b3 b4 b5)) else (intrusionlaw17_TunnelRoundTrip.j0 k a1 a2 false b0 b1 b2 b3 b4 b5))))) = some r := h
 clear h
 replace H := Option.bind_eq_some_iff.mp H
 obtain ⟨t566, A40, H⟩ := H
 replace H : (if t566 = true then ((intrusionlaw17_awake.f k).bind fun t567 => (some t567)) else ((tunnel_WrapGre.f k b0 b1 b2 b3 b4 b5 (wrap64 ((wrap64 (Int.tmod (IntKind.u64.wrap (a1)) 3)) + 1)) a2 ((a1) % 4294967296) ((Int.tmod a1 2) == 0)).bind fun bt568 => (if bt568.2.2.2.2.2.2.2.2.2 = 0 then ((intrusionlaw17_unwraps.f k bt568.1 bt568.2.1 bt568.2.2.1 bt568.2.2.2.1 bt568.2.2.2.2.1 bt568.2.2.2.2.2.1 bt568.2.2.2.2.2.2.1 bt568.2.2.2.2.2.2.2.1 bt568.2.2.2.2.2.2.2.2.1 (wrap64 ((wrap64 (Int.tmod (IntKind.u64.wrap (a1)) 3)) + 1)) a2).bind fun t579 => (intrusionlaw17_TunnelRoundTrip.j0 k a1 a2 (!t579) b0 b1 b2 b3 b4 b5)) else (intrusionlaw17_TunnelRoundTrip.j0 k a1 a2 false b0 b1 b2 b3 b4 b5)))) = some r := H
 have A4 := As A40
 clear A40
 by_cases c5 : t566 = true
 ·subst c5
  have H1 : ((intrusionlaw17_awake.f k).bind fun t567 => (some t567)) = some r := by rw [if_pos rfl] at H; exact H
  clear H
  have H := H1
  clear H1
  replace H := Option.bind_eq_some_iff.mp H
  obtain ⟨t567, A60, H⟩ := H
  replace H : (some t567) = some r := H
  have A6 := As A60
  clear A60
  obtain rfl := Option.some.inj H
  go_enter Tryd.func9, Tryd.ntmps9
  go_wp2_with (first | ((with_reducible refine gate_dst (N := 3) rfl ?_); refine box_event rfl (N := 3) rfl (cs := #[.bool b0, .int .u64 b1, .int .u64 b2, .bool b3, .int .u64 b4, .int .u64 b5]) (t := 26) kG ?_; intro gb565 hg w7 hbox hb; have BK565 := As (hbox); have GW565 := As ((by rw [hg]; exact (below_size (kB HB.out)) : w.heap.size ≤ gb565)); have GE565 := As ((by rw [hg]; exact (below_size (kB HB.out)) : w.heap.size ≤ gb565)); replace HB := As (below_step (kB HB.out) hb); clear hb hbox hg) | ((with_reducible refine gate_callee (f := 10) rfl ?_); refine goesL_ (some 13) rfl rfl Tryd.func10 (by kernel_rfl) rfl #[.string a2] rfl kA ?_; (with_reducible refine (intrusionlaw17_long.calls a2 true _ A4.out).mono ?_); rintro e w' ⟨rfl, ⟨nd, rfl⟩⟩; refine ⟨_, rfl, ?_⟩) | ((with_reducible refine gate_callee (f := 11) rfl ?_); refine goesL_ (some 14) rfl rfl Tryd.func11 (by kernel_rfl) rfl #[] rfl kA ?_; (with_reducible refine (intrusionlaw17_awake.calls k  t567 _ ?side1 A6.out).mono ?_); (case side1 => exact laid_below HLD.out (kB1 HB.out GE565.out)); rintro e w8 ⟨rfl, hb⟩; refine ⟨_, rfl, ?_⟩; replace BK565 := As (blk_below (kb BK565.out) hb); replace HB := As (below_step (kB1 HB.out GE565.out) hb); (try clear hb)))
  go_ret
  exact ⟨kE, by exact kB1 HB.out GE565.out⟩
 replace c5 := Bool.eq_false_iff.mpr c5
 subst c5
 have H1 : ((tunnel_WrapGre.f k b0 b1 b2 b3 b4 b5 (wrap64 ((wrap64 (Int.tmod (IntKind.u64.wrap (a1)) 3)) + 1)) a2 ((a1) % 4294967296) ((Int.tmod a1 2) == 0)).bind fun bt568 => (if bt568.2.2.2.2.2.2.2.2.2 = 0 then ((intrusionlaw17_unwraps.f k bt568.1 bt568.2.1 bt568.2.2.1 bt568.2.2.2.1 bt568.2.2.2.2.1 bt568.2.2.2.2.2.1 bt568.2.2.2.2.2.2.1 bt568.2.2.2.2.2.2.2.1 bt568.2.2.2.2.2.2.2.2.1 (wrap64 ((wrap64 (Int.tmod (IntKind.u64.wrap (a1)) 3)) + 1)) a2).bind fun t579 => (intrusionlaw17_TunnelRoundTrip.j0 k a1 a2 (!t579) b0 b1 b2 b3 b4 b5)) else (intrusionlaw17_TunnelRoundTrip.j0 k a1 a2 false b0 b1 b2 b3 b4 b5))) = some r := by rw [if_neg (show ¬ (false = true) by decide)] at H; exact H
 clear H
 have H := H1
 clear H1
 replace H := Option.bind_eq_some_iff.mp H
 obtain ⟨⟨t568, t569, t570, t571, t572, t573, t574, t575, t576, t577⟩, A90, H⟩ := H
 replace H : (if t577 = 0 then ((intrusionlaw17_unwraps.f k t568 t569 t570 t571 t572 t573 t574 t575 t576 (wrap64 ((wrap64 (Int.tmod (IntKind.u64.wrap (a1)) 3)) + 1)) a2).bind fun t579 => (intrusionlaw17_TunnelRoundTrip.j0 k a1 a2 (!t579) b0 b1 b2 b3 b4 b5)) else (intrusionlaw17_TunnelRoundTrip.j0 k a1 a2 false b0 b1 b2 b3 b4 b5)) = some r := H
 have A9 := As A90
 clear A90
 have HC10 := As H
 clear H
 go_enter Tryd.func9, Tryd.ntmps9
 go_upto_region 5 with (first | ((with_reducible refine gate_dst (N := 3) rfl ?_); refine box_event rfl (N := 3) rfl (cs := #[.bool b0, .int .u64 b1, .int .u64 b2, .bool b3, .int .u64 b4, .int .u64 b5]) (t := 26) kG ?_; intro gb565 hg w11 hbox hb; have BK565 := As (hbox); have GW565 := As ((by rw [hg]; exact (below_size (kB HB.out)) : w.heap.size ≤ gb565)); have GE565 := As ((by rw [hg]; exact (below_size (kB HB.out)) : w.heap.size ≤ gb565)); replace HB := As (below_step (kB HB.out) hb); clear hb hbox hg) | ((with_reducible refine gate_callee (f := 10) rfl ?_); refine goesL_ (some 13) rfl rfl Tryd.func10 (by kernel_rfl) rfl #[.string a2] rfl kA ?_; (with_reducible refine (intrusionlaw17_long.calls a2 false _ A4.out).mono ?_); rintro e w' ⟨rfl, ⟨nd, rfl⟩⟩; refine ⟨_, rfl, ?_⟩; (try (rw [drewN_self w11]; generalize hq_ : World.drewN w11 _ = w11; have n0_ : Aside0 (w11.heap[gb565]? = some (.cells #[.bool b0, .int .u64 b1, .int .u64 b2, .bool b3, .int .u64 b4, .int .u64 b5] 26 (0, 0))) := ⟨by rw [← hq_]; exact (kb BK565.out)⟩; have n1_ : Aside0 (Below w.heap.size w w11) := ⟨by rw [← hq_]; exact (kB1 HB.out GE565.out)⟩; clear BK565 HB hq_; have BK565 := n0_; have HB := n1_; clear n0_ n1_)); have hcz12_0 := cells_6 BK565.out; have hfz12_0 := fun j_ => blk_frozen BK565.out j_) | ((with_reducible refine gate_callee (f := 12) rfl ?_); refine goesL_ (some 32) rfl rfl Tryd.func12 (by kernel_rfl) rfl #[.agg #[.bool b0, .int .u64 b1, .int .u64 b2], .agg #[.bool b3, .int .u64 b4, .int .u64 b5], .int .i64 (wrap64 ((wrap64 (Int.tmod (IntKind.u64.wrap (a1)) 3)) + 1)), .string a2, .int .u32 ((a1) % 4294967296), .bool ((Int.tmod a1 2) == 0)] rfl kA ?_; (with_reducible refine (tunnel_WrapGre.calls k b0 b1 b2 b3 b4 b5 (wrap64 ((wrap64 (Int.tmod (IntKind.u64.wrap (a1)) 3)) + 1)) a2 ((a1) % 4294967296) ((Int.tmod a1 2) == 0) t568 t569 t570 t571 t572 t573 t574 t575 t576 t577 _ A9.out).mono ?_); rintro e w13 ⟨rfl, hb⟩; refine ⟨_, rfl, ?_⟩; replace BK565 := As (blk_below (kb BK565.out) hb); replace HB := As (below_step (kB1 HB.out GE565.out) hb); (try clear hb)) | ((with_reducible refine gate_dst (N := 8) rfl ?_); refine box_event rfl (N := 8) rfl (cs := #[.bool false, .int .u64 0, .int .u64 0, .bool false, .int .u64 0, .int .u64 0, .int .i64 0, .int .i64 0, .string (⟨#[]⟩ : ByteArray)]) (t := 30) kG ?_; intro gb578 hg w14 hbox hb; have BK578 := As (hbox); have GW578 := As ((by rw [hg]; exact (below_size (kB1 HB.out GE565.out)) : w.heap.size ≤ gb578)); have GE578 := As ((by rw [hg]; exact (below_size (kB1 HB.out GE565.out)) : w.heap.size ≤ gb578)); replace HB := As (below_step (kB1 HB.out GE565.out) hb); have NB565_578 := As ((by rw [hg]; exact Nat.ne_of_lt (blk_lt (kb BK565.out)) : gb565 ≠ gb578)); have NB578_565 := As ((by rw [hg]; exact Nat.ne_of_gt (blk_lt (kb BK565.out)) : gb578 ≠ gb565)); replace BK565 := As (blk_below (kb BK565.out) hb); clear hb hbox hg) | ((with_reducible refine gate_store (t := 30) (p := 8) rfl ?_); refine store_rowev_9 gb578 (.bool t568) (.int .u64 t569) (.int .u64 t570) (.bool t571) (.int .u64 t572) (.int .u64 t573) (.int .i64 t574) (.int .i64 t575) (.string t576) rfl (t := 30) (p := 8) (v := _) rfl rfl rfl rfl (t' := 30) (kb BK578.out) (by rfl) (by kernel_rfl) (by rfl) ?_))
 (try simp only [Act.put, sA, sZ, sS])
 go_cut [43] (fun v43 wc => ∃ (kq : Nat) (x43_9 : Bool), v43 = .bool x43_9 ∧ Aside0 (intrusionlaw17_TunnelRoundTrip.j0 kq a1 a2 x43_9 b0 b1 b2 b3 b4 b5 = some r) ∧ Aside0 (kq ≤ k) ∧ Aside0 (wc.heap[gb565]? = some (.cells #[.bool b0, .int .u64 b1, .int .u64 b2, .bool b3, .int .u64 b4, .int .u64 b5] 26 (0, 0))) ∧ Aside0 (wc.heap[gb578]? = some (.cells #[.bool t568, .int .u64 t569, .int .u64 t570, .bool t571, .int .u64 t572, .int .u64 t573, .int .i64 t574, .int .i64 t575, .string t576] 30 (0, 0))) ∧ Aside0 (Below w.heap.size w wc))
 case first =>
  have H := HC10.out
  clear HC10
  by_cases c15 : t577 = 0
  ·rw [if_pos c15] at H
   have c15b0 : (t577 == 0) = true := beq_iff_eq.mpr c15
   have c15b1 : (t577 != 0) = false := bne_eq_false_iff_eq.mpr c15
   clear c15
   (first | rw [c15b0] | (simp only [i64_w, i32_w]; rw [c15b0]) | skip)
   replace H := Option.bind_eq_some_iff.mp H
   obtain ⟨t579, A160, H⟩ := H
   replace H : (intrusionlaw17_TunnelRoundTrip.j0 k a1 a2 (!t579) b0 b1 b2 b3 b4 b5) = some r := H
   have A16 := As A160
   clear A160
   have H' := As H
   clear H
   go_wp2_with (first | ((with_reducible refine gate_dst (N := 38) rfl ?_); (try (refine gate_guard (by rfl) ?_; dsimp only)); refine wpList_load_row ?hgd 30 _ rfl gb578 rfl 30 #[.bool t568, .int .u64 t569, .int .u64 t570, .bool t571, .int .u64 t572, .int .u64 t573, .int .i64 t574, .int .i64 t575, .string t576] (0, 0) _ (by refine kb ?_; exact blk_all_9 (kb BK578.out) (by rfl)) Tryd.underlying30 rfl (by kernel_rfl) ?_; (case hgd => rfl)) | (go_at_call 19; (with_reducible refine (intrusionlaw17_unwraps.calls k t568 t569 t570 t571 t572 t573 t574 t575 t576 (wrap64 ((wrap64 (Int.tmod (IntKind.u64.wrap (a1)) 3)) + 1)) a2 t579 _ ?side1 A16.out).mono ?_); (case side1 => exact laid_below HLD.out (kB2 HB.out GE565.out GE578.out)); rintro e w17 ⟨rfl, hb⟩; replace BK565 := As (blk_below (g := gb565) (o := .cells #[.bool b0, .int .u64 b1, .int .u64 b2, .bool b3, .int .u64 b4, .int .u64 b5] 26 (0, 0)) (by refine kb ?_; (iterate 9 (refine blk_far ?_ NB565_578.out _; refine kb ?_)); exact BK565.out) hb); replace BK578 := As (blk_below (g := gb578) (o := .cells #[.bool t568, .int .u64 t569, .int .u64 t570, .bool t571, .int .u64 t572, .int .u64 t573, .int .i64 t574, .int .i64 t575, .string t576] 30 (0, 0)) (by refine kb ?_; exact blk_all_9 (kb BK578.out) (by rfl)) hb); replace HB := As (below_step (kB2 HB.out GE565.out GE578.out) hb); (try clear hb)))
   go_meet
   case rel => exact ⟨_, (!t579), kS, H', ⟨by first | omega | exact Nat.le_refl _⟩, ⟨kb BK565.out⟩, ⟨kb BK578.out⟩, ⟨kB2 HB.out GE565.out GE578.out⟩⟩
  rw [if_neg c15] at H
  have c15b0 : (t577 == 0) = false := beq_eq_false_iff_ne.mpr c15
  have c15b1 : (t577 != 0) = true := bne_iff_ne.mpr c15
  (first | rw [c15b0] | (simp only [i64_w, i32_w]; rw [c15b0]) | skip)
  have H' := As H
  clear H
  go_wp2
  go_meet
  case rel => exact ⟨_, (false), kS, H', ⟨by first | omega | exact Nat.le_refl _⟩, ⟨by refine kb ?_; (iterate 9 (refine blk_far ?_ NB565_578.out _; refine kb ?_)); exact BK565.out⟩, ⟨by refine kb ?_; exact blk_all_9 (kb BK578.out) (by rfl)⟩, ⟨kB2 HB.out GE565.out GE578.out⟩⟩
 clear HC10
 try clear c5
 try clear hcz12_0
 try clear hfz12_0
 obtain ⟨kq, x43_9, rfl, HA, HJ9, BK565, BK578, HB⟩ := hcut
 cases kq with
 | zero => exact absurd HA.out (by simp [intrusionlaw17_TunnelRoundTrip.j0])
 | succ kj9 =>
  have H := HA.out
  clear HA
  simp only [intrusionlaw17_TunnelRoundTrip.j0] at H
  by_cases c18 : x43_9 = true
  ·subst c18
   have H1 : (none) = some r := by rw [if_pos rfl] at H; exact H
   clear H
   have H := H1
   clear H1
   exact absurd H (by simp)
  replace c18 := Bool.eq_false_iff.mpr c18
  subst c18
  have H1 : ((tunnel_WrapVxlan.f kj9 b0 b1 b2 b3 b4 b5 (wrap64 (Int.tmod (IntKind.u64.wrap (a1)) 16777216)) a2).bind fun bt580 => (if bt580.2.2.2.2.2.2.2.2.2 = 0 then ((intrusionlaw17_unwraps.f kj9 bt580.1 bt580.2.1 bt580.2.2.1 bt580.2.2.2.1 bt580.2.2.2.2.1 bt580.2.2.2.2.2.1 bt580.2.2.2.2.2.2.1 bt580.2.2.2.2.2.2.2.1 bt580.2.2.2.2.2.2.2.2.1 3 a2).bind fun t591 => (intrusionlaw17_TunnelRoundTrip.j1 kj9 a2 (!t591) b0 b1 b2 b3 b4 b5)) else (intrusionlaw17_TunnelRoundTrip.j1 kj9 a2 false b0 b1 b2 b3 b4 b5))) = some r := by rw [if_neg (show ¬ (false = true) by decide)] at H; exact H
  clear H
  have H := H1
  clear H1
  replace H := Option.bind_eq_some_iff.mp H
  obtain ⟨⟨t580, t581, t582, t583, t584, t585, t586, t587, t588, t589⟩, A190, H⟩ := H
  replace H : (if t589 = 0 then ((intrusionlaw17_unwraps.f kj9 t580 t581 t582 t583 t584 t585 t586 t587 t588 3 a2).bind fun t591 => (intrusionlaw17_TunnelRoundTrip.j1 kj9 a2 (!t591) b0 b1 b2 b3 b4 b5)) else (intrusionlaw17_TunnelRoundTrip.j1 kj9 a2 false b0 b1 b2 b3 b4 b5)) = some r := H
  have A19 := As A190
  clear A190
  have HC20 := As H
  clear H
  have hnb21 := NB565_578.out
  have hnc21 := NB578_565.out
  have hcz22_0 := cells_6 BK565.out
  have hfz22_0 := fun j_ => blk_frozen BK565.out j_
  go_upto_region 8 with (first | ((with_reducible refine gate_callee (f := 24) rfl ?_); refine goesL_ (some 54) rfl rfl Tryd.func24 (by kernel_rfl) rfl #[.agg #[.bool b0, .int .u64 b1, .int .u64 b2], .agg #[.bool b3, .int .u64 b4, .int .u64 b5], .int .i64 (wrap64 (Int.tmod (IntKind.u64.wrap (a1)) 16777216)), .string a2] rfl kA ?_; (with_reducible refine (tunnel_WrapVxlan.calls kj9 b0 b1 b2 b3 b4 b5 (wrap64 (Int.tmod (IntKind.u64.wrap (a1)) 16777216)) a2 t580 t581 t582 t583 t584 t585 t586 t587 t588 t589 _ ?side1 A19.out).mono ?_); (case side1 => exact laid_below HLD.out (kB2 HB.out GE565.out GE578.out)); rintro e w23 ⟨rfl, hb⟩; refine ⟨_, rfl, ?_⟩; replace BK565 := As (blk_below (kb BK565.out) hb); replace BK578 := As (blk_below (kb BK578.out) hb); replace HB := As (below_step (kB2 HB.out GE565.out GE578.out) hb); (try clear hb)) | ((with_reducible refine gate_dst (N := 10) rfl ?_); refine box_event rfl (N := 10) rfl (cs := #[.bool false, .int .u64 0, .int .u64 0, .bool false, .int .u64 0, .int .u64 0, .int .i64 0, .int .i64 0, .string (⟨#[]⟩ : ByteArray)]) (t := 30) kG ?_; intro gb590 hg w24 hbox hb; have BK590 := As (hbox); have GW590 := As ((by rw [hg]; exact (below_size (kB2 HB.out GE565.out GE578.out)) : w.heap.size ≤ gb590)); have GE590 := As ((by rw [hg]; exact (below_size (kB2 HB.out GE565.out GE578.out)) : w.heap.size ≤ gb590)); replace HB := As (below_step (kB2 HB.out GE565.out GE578.out) hb); have NB565_590 := As ((by rw [hg]; exact Nat.ne_of_lt (blk_lt (kb BK565.out)) : gb565 ≠ gb590)); have NB590_565 := As ((by rw [hg]; exact Nat.ne_of_gt (blk_lt (kb BK565.out)) : gb590 ≠ gb565)); replace BK565 := As (blk_below (kb BK565.out) hb); have NB578_590 := As ((by rw [hg]; exact Nat.ne_of_lt (blk_lt (kb BK578.out)) : gb578 ≠ gb590)); have NB590_578 := As ((by rw [hg]; exact Nat.ne_of_gt (blk_lt (kb BK578.out)) : gb590 ≠ gb578)); replace BK578 := As (blk_below (kb BK578.out) hb); clear hb hbox hg) | ((with_reducible refine gate_store (t := 30) (p := 10) rfl ?_); refine store_rowev_9 gb590 (.bool t580) (.int .u64 t581) (.int .u64 t582) (.bool t583) (.int .u64 t584) (.int .u64 t585) (.int .i64 t586) (.int .i64 t587) (.string t588) rfl (t := 30) (p := 10) (v := _) rfl rfl rfl rfl (t' := 30) (kb BK590.out) (by rfl) (by kernel_rfl) (by rfl) ?_))
  (try simp only [Act.put, sA, sZ, sS])
  go_cut [64] (fun v64 wc => ∃ (kq : Nat) (x64_19 : Bool), v64 = .bool x64_19 ∧ Aside0 (intrusionlaw17_TunnelRoundTrip.j1 kq a2 x64_19 b0 b1 b2 b3 b4 b5 = some r) ∧ Aside0 (kq ≤ kj9) ∧ Aside0 (wc.heap[gb565]? = some (.cells #[.bool b0, .int .u64 b1, .int .u64 b2, .bool b3, .int .u64 b4, .int .u64 b5] 26 (0, 0))) ∧ Aside0 (wc.heap[gb578]? = some (.cells #[.bool t568, .int .u64 t569, .int .u64 t570, .bool t571, .int .u64 t572, .int .u64 t573, .int .i64 t574, .int .i64 t575, .string t576] 30 (0, 0))) ∧ Aside0 (wc.heap[gb590]? = some (.cells #[.bool t580, .int .u64 t581, .int .u64 t582, .bool t583, .int .u64 t584, .int .u64 t585, .int .i64 t586, .int .i64 t587, .string t588] 30 (0, 0))) ∧ Aside0 (Below w.heap.size w wc))
  case first =>
   have H := HC20.out
   clear HC20
   by_cases c25 : t589 = 0
   ·rw [if_pos c25] at H
    have c25b0 : (t589 == 0) = true := beq_iff_eq.mpr c25
    have c25b1 : (t589 != 0) = false := bne_eq_false_iff_eq.mpr c25
    clear c25
    (first | rw [c25b0] | (simp only [i64_w, i32_w]; rw [c25b0]) | skip)
    replace H := Option.bind_eq_some_iff.mp H
    obtain ⟨t591, A260, H⟩ := H
    replace H : (intrusionlaw17_TunnelRoundTrip.j1 kj9 a2 (!t591) b0 b1 b2 b3 b4 b5) = some r := H
    have A26 := As A260
    clear A260
    have H' := As H
    clear H
    go_wp2_with (first | ((with_reducible refine gate_dst (N := 60) rfl ?_); (try (refine gate_guard (by rfl) ?_; dsimp only)); refine wpList_load_row ?hgd 30 _ rfl gb590 rfl 30 #[.bool t580, .int .u64 t581, .int .u64 t582, .bool t583, .int .u64 t584, .int .u64 t585, .int .i64 t586, .int .i64 t587, .string t588] (0, 0) _ (by refine kb ?_; exact blk_all_9 (kb BK590.out) (by rfl)) Tryd.underlying30 rfl (by kernel_rfl) ?_; (case hgd => rfl)) | (go_at_call 19; (with_reducible refine (intrusionlaw17_unwraps.calls kj9 t580 t581 t582 t583 t584 t585 t586 t587 t588 3 a2 t591 _ ?side1 A26.out).mono ?_); (case side1 => exact laid_below HLD.out (kB3 HB.out GE565.out GE578.out GE590.out)); rintro e w27 ⟨rfl, hb⟩; replace BK565 := As (blk_below (g := gb565) (o := .cells #[.bool b0, .int .u64 b1, .int .u64 b2, .bool b3, .int .u64 b4, .int .u64 b5] 26 (0, 0)) (by refine kb ?_; (iterate 9 (refine blk_far ?_ NB565_590.out _; refine kb ?_)); exact BK565.out) hb); replace BK578 := As (blk_below (g := gb578) (o := .cells #[.bool t568, .int .u64 t569, .int .u64 t570, .bool t571, .int .u64 t572, .int .u64 t573, .int .i64 t574, .int .i64 t575, .string t576] 30 (0, 0)) (by refine kb ?_; (iterate 9 (refine blk_far ?_ NB578_590.out _; refine kb ?_)); exact BK578.out) hb); replace BK590 := As (blk_below (g := gb590) (o := .cells #[.bool t580, .int .u64 t581, .int .u64 t582, .bool t583, .int .u64 t584, .int .u64 t585, .int .i64 t586, .int .i64 t587, .string t588] 30 (0, 0)) (by refine kb ?_; exact blk_all_9 (kb BK590.out) (by rfl)) hb); replace HB := As (below_step (kB3 HB.out GE565.out GE578.out GE590.out) hb); (try clear hb)))
    go_meet
    case rel => exact ⟨_, (!t591), kS, H', ⟨by have := HJ9.out; first | omega | exact Nat.le_refl _⟩, ⟨kb BK565.out⟩, ⟨kb BK578.out⟩, ⟨kb BK590.out⟩, ⟨kB3 HB.out GE565.out GE578.out GE590.out⟩⟩
   rw [if_neg c25] at H
   have c25b0 : (t589 == 0) = false := beq_eq_false_iff_ne.mpr c25
   have c25b1 : (t589 != 0) = true := bne_iff_ne.mpr c25
   (first | rw [c25b0] | (simp only [i64_w, i32_w]; rw [c25b0]) | skip)
   have H' := As H
   clear H
   go_wp2
   go_meet
   case rel => exact ⟨_, (false), kS, H', ⟨by have := HJ9.out; first | omega | exact Nat.le_refl _⟩, ⟨by refine kb ?_; (iterate 9 (refine blk_far ?_ NB565_590.out _; refine kb ?_)); exact BK565.out⟩, ⟨by refine kb ?_; (iterate 9 (refine blk_far ?_ NB578_590.out _; refine kb ?_)); exact BK578.out⟩, ⟨by refine kb ?_; exact blk_all_9 (kb BK590.out) (by rfl)⟩, ⟨kB3 HB.out GE565.out GE578.out GE590.out⟩⟩
  clear HC20
  try clear c18
  try clear hcz22_0
  try clear hfz22_0
  obtain ⟨kq, x64_19, rfl, HA, HJ19, BK565, BK578, BK590, HB⟩ := hcut
  cases kq with
  | zero => exact absurd HA.out (by simp [intrusionlaw17_TunnelRoundTrip.j1])
  | succ kj19 =>
   have H := HA.out
   clear HA
   simp only [intrusionlaw17_TunnelRoundTrip.j1] at H
   by_cases c28 : x64_19 = true
   ·subst c28
    have H1 : (none) = some r := by rw [if_pos rfl] at H; exact H
    clear H
    have H := H1
    clear H1
    exact absurd H (by simp)
   replace c28 := Bool.eq_false_iff.mpr c28
   subst c28
   have H1 : ((tunnel_WrapIp.f kj19 b0 b1 b2 b3 b4 b5 a2).bind fun bt592 => (if bt592.2.2.2.2.2.2.2.2.2 = 0 then (if a2.toList = ([] : List UInt8) then (none) else (if 0 < (a2.size : Int) then ((intrusionlaw17_unwraps.f kj19 bt592.1 bt592.2.1 bt592.2.2.1 bt592.2.2.2.1 bt592.2.2.2.2.1 bt592.2.2.2.2.2.1 bt592.2.2.2.2.2.2.1 bt592.2.2.2.2.2.2.2.1 bt592.2.2.2.2.2.2.2.2.1 (wrap64 ((wrap64 (Int.tdiv (wrap64 (bt a2 0)) 32)) - 1)) a2).bind fun t603 => (if t603 = true then ((intrusionlaw17_awake.f kj19).bind fun t604 => (some t604)) else (none))) else (none))) else ((intrusionlaw17_awake.f kj19).bind fun t605 => (some t605)))) = some r := by rw [if_neg (show ¬ (false = true) by decide)] at H; exact H
   clear H
   have H := H1
   clear H1
   replace H := Option.bind_eq_some_iff.mp H
   obtain ⟨⟨t592, t593, t594, t595, t596, t597, t598, t599, t600, t601⟩, A290, H⟩ := H
   replace H : (if t601 = 0 then (if a2.toList = ([] : List UInt8) then (none) else (if 0 < (a2.size : Int) then ((intrusionlaw17_unwraps.f kj19 t592 t593 t594 t595 t596 t597 t598 t599 t600 (wrap64 ((wrap64 (Int.tdiv (wrap64 (bt a2 0)) 32)) - 1)) a2).bind fun t603 => (if t603 = true then ((intrusionlaw17_awake.f kj19).bind fun t604 => (some t604)) else (none))) else (none))) else ((intrusionlaw17_awake.f kj19).bind fun t605 => (some t605))) = some r := H
   have A29 := As A290
   clear A290
   by_cases c30 : t601 = 0
   ·rw [if_pos c30] at H
    have c30b0 : (t601 == 0) = true := beq_iff_eq.mpr c30
    have c30b1 : (t601 != 0) = false := bne_eq_false_iff_eq.mpr c30
    clear c30
    by_cases c31 : a2.toList = ([] : List UInt8)
    ·rw [if_pos c31] at H
     have c31b0 : (a2.toList == ([] : List UInt8)) = true := beq_iff_eq.mpr c31
     have c31b1 : (a2.toList != ([] : List UInt8)) = false := bne_eq_false_iff_eq.mpr c31
     have c31b2 : (!a2.toList.isEmpty) = false := by simp [c31]
     have c31b3 : a2.toList.isEmpty = true := by simp [c31]
     clear c31
     exact absurd H (by simp)
    rw [if_neg c31] at H
    have c31b0 : (a2.toList == ([] : List UInt8)) = false := beq_eq_false_iff_ne.mpr c31
    have c31b1 : (a2.toList != ([] : List UInt8)) = true := bne_iff_ne.mpr c31
    have c31b2 : (!a2.toList.isEmpty) = true := by simp [c31]
    have c31b3 : a2.toList.isEmpty = false := by simp [c31]
    by_cases c32 : 0 < (a2.size : Int)
    ·rw [if_pos c32] at H
     have c32b0 : decide (0 < (a2.size : Int)) = true := decide_eq_true c32
     have c32b1 : decide (0 < a2.size) = true := decide_eq_true (by omega)
     clear c32
     replace H := Option.bind_eq_some_iff.mp H
     obtain ⟨t603, A340, H⟩ := H
     replace H : (if t603 = true then ((intrusionlaw17_awake.f kj19).bind fun t604 => (some t604)) else (none)) = some r := H
     have A34 := As A340
     clear A340
     by_cases c35 : t603 = true
     ·subst c35
      have H1 : ((intrusionlaw17_awake.f kj19).bind fun t604 => (some t604)) = some r := by rw [if_pos rfl] at H; exact H
      clear H
      have H := H1
      clear H1
      replace H := Option.bind_eq_some_iff.mp H
      obtain ⟨t604, A360, H⟩ := H
      replace H : (some t604) = some r := H
      have A36 := As A360
      clear A360
      obtain rfl := Option.some.inj H
      have hnb37 := NB565_578.out
      have hnc37 := NB578_565.out
      have hnb38 := NB565_590.out
      have hnc38 := NB590_565.out
      have hcz39_0 := cells_6 BK565.out
      have hfz39_0 := fun j_ => blk_frozen BK565.out j_
      try go_wp2_with (first | ((with_reducible refine gate_callee (f := 17) rfl ?_); refine goesL_ (some 71) rfl rfl Tryd.func17 (by kernel_rfl) rfl #[.agg #[.bool b0, .int .u64 b1, .int .u64 b2], .agg #[.bool b3, .int .u64 b4, .int .u64 b5], .string a2] rfl kA ?_; (with_reducible refine (tunnel_WrapIp.calls kj19 b0 b1 b2 b3 b4 b5 a2 t592 t593 t594 t595 t596 t597 t598 t599 t600 t601 _ A29.out).mono ?_); rintro e w40 ⟨rfl, hb⟩; refine ⟨_, rfl, ?_⟩; replace BK565 := As (blk_below (kb BK565.out) hb); replace BK578 := As (blk_below (kb BK578.out) hb); replace BK590 := As (blk_below (kb BK590.out) hb); replace HB := As (below_step (kB3 HB.out GE565.out GE578.out GE590.out) hb); (try clear hb)) | ((with_reducible refine gate_dst (N := 11) rfl ?_); refine box_event rfl (N := 11) rfl (cs := #[.bool false, .int .u64 0, .int .u64 0, .bool false, .int .u64 0, .int .u64 0, .int .i64 0, .int .i64 0, .string (⟨#[]⟩ : ByteArray)]) (t := 30) kG ?_; intro gb602 hg w41 hbox hb; have BK602 := As (hbox); have GW602 := As ((by rw [hg]; exact (below_size (kB3 HB.out GE565.out GE578.out GE590.out)) : w.heap.size ≤ gb602)); have GE602 := As ((by rw [hg]; exact (below_size (kB3 HB.out GE565.out GE578.out GE590.out)) : w.heap.size ≤ gb602)); replace HB := As (below_step (kB3 HB.out GE565.out GE578.out GE590.out) hb); have NB565_602 := As ((by rw [hg]; exact Nat.ne_of_lt (blk_lt (kb BK565.out)) : gb565 ≠ gb602)); have NB602_565 := As ((by rw [hg]; exact Nat.ne_of_gt (blk_lt (kb BK565.out)) : gb602 ≠ gb565)); replace BK565 := As (blk_below (kb BK565.out) hb); have NB578_602 := As ((by rw [hg]; exact Nat.ne_of_lt (blk_lt (kb BK578.out)) : gb578 ≠ gb602)); have NB602_578 := As ((by rw [hg]; exact Nat.ne_of_gt (blk_lt (kb BK578.out)) : gb602 ≠ gb578)); replace BK578 := As (blk_below (kb BK578.out) hb); have NB590_602 := As ((by rw [hg]; exact Nat.ne_of_lt (blk_lt (kb BK590.out)) : gb590 ≠ gb602)); have NB602_590 := As ((by rw [hg]; exact Nat.ne_of_gt (blk_lt (kb BK590.out)) : gb602 ≠ gb590)); replace BK590 := As (blk_below (kb BK590.out) hb); clear hb hbox hg) | ((with_reducible refine gate_store (t := 30) (p := 11) rfl ?_); refine store_rowev_9 gb602 (.bool t592) (.int .u64 t593) (.int .u64 t594) (.bool t595) (.int .u64 t596) (.int .u64 t597) (.int .i64 t598) (.int .i64 t599) (.string t600) rfl (t := 30) (p := 11) (v := _) rfl rfl rfl rfl (t' := 30) (kb BK602.out) (by rfl) (by kernel_rfl) (by rfl) ?_))
      have n0_ : Aside0 ((((((((((w41.setCell ⟨gb602, 0, none⟩ (.bool t592)).setCell ⟨gb602, 1, none⟩ (.int .u64 t593)).setCell ⟨gb602, 2, none⟩ (.int .u64 t594)).setCell ⟨gb602, 3, none⟩ (.bool t595)).setCell ⟨gb602, 4, none⟩ (.int .u64 t596)).setCell ⟨gb602, 5, none⟩ (.int .u64 t597)).setCell ⟨gb602, 6, none⟩ (.int .i64 t598)).setCell ⟨gb602, 7, none⟩ (.int .i64 t599)).setCell ⟨gb602, 8, none⟩ (.string t600)).heap[gb565]? = some (.cells #[.bool b0, .int .u64 b1, .int .u64 b2, .bool b3, .int .u64 b4, .int .u64 b5] 26 (0, 0))) := ⟨by refine kb ?_; (iterate 9 (refine blk_far ?_ NB565_602.out _; refine kb ?_)); exact BK565.out⟩
      have n1_ : Aside0 ((((((((((w41.setCell ⟨gb602, 0, none⟩ (.bool t592)).setCell ⟨gb602, 1, none⟩ (.int .u64 t593)).setCell ⟨gb602, 2, none⟩ (.int .u64 t594)).setCell ⟨gb602, 3, none⟩ (.bool t595)).setCell ⟨gb602, 4, none⟩ (.int .u64 t596)).setCell ⟨gb602, 5, none⟩ (.int .u64 t597)).setCell ⟨gb602, 6, none⟩ (.int .i64 t598)).setCell ⟨gb602, 7, none⟩ (.int .i64 t599)).setCell ⟨gb602, 8, none⟩ (.string t600)).heap[gb578]? = some (.cells #[.bool t568, .int .u64 t569, .int .u64 t570, .bool t571, .int .u64 t572, .int .u64 t573, .int .i64 t574, .int .i64 t575, .string t576] 30 (0, 0))) := ⟨by refine kb ?_; (iterate 9 (refine blk_far ?_ NB578_602.out _; refine kb ?_)); exact BK578.out⟩
      have n2_ : Aside0 ((((((((((w41.setCell ⟨gb602, 0, none⟩ (.bool t592)).setCell ⟨gb602, 1, none⟩ (.int .u64 t593)).setCell ⟨gb602, 2, none⟩ (.int .u64 t594)).setCell ⟨gb602, 3, none⟩ (.bool t595)).setCell ⟨gb602, 4, none⟩ (.int .u64 t596)).setCell ⟨gb602, 5, none⟩ (.int .u64 t597)).setCell ⟨gb602, 6, none⟩ (.int .i64 t598)).setCell ⟨gb602, 7, none⟩ (.int .i64 t599)).setCell ⟨gb602, 8, none⟩ (.string t600)).heap[gb590]? = some (.cells #[.bool t580, .int .u64 t581, .int .u64 t582, .bool t583, .int .u64 t584, .int .u64 t585, .int .i64 t586, .int .i64 t587, .string t588] 30 (0, 0))) := ⟨by refine kb ?_; (iterate 9 (refine blk_far ?_ NB590_602.out _; refine kb ?_)); exact BK590.out⟩
      have n3_ : Aside0 ((((((((((w41.setCell ⟨gb602, 0, none⟩ (.bool t592)).setCell ⟨gb602, 1, none⟩ (.int .u64 t593)).setCell ⟨gb602, 2, none⟩ (.int .u64 t594)).setCell ⟨gb602, 3, none⟩ (.bool t595)).setCell ⟨gb602, 4, none⟩ (.int .u64 t596)).setCell ⟨gb602, 5, none⟩ (.int .u64 t597)).setCell ⟨gb602, 6, none⟩ (.int .i64 t598)).setCell ⟨gb602, 7, none⟩ (.int .i64 t599)).setCell ⟨gb602, 8, none⟩ (.string t600)).heap[gb602]? = some (.cells #[.bool t592, .int .u64 t593, .int .u64 t594, .bool t595, .int .u64 t596, .int .u64 t597, .int .i64 t598, .int .i64 t599, .string t600] 30 (0, 0))) := ⟨by refine kb ?_; exact blk_all_9 (kb BK602.out) (by rfl)⟩
      have n4_ : Aside0 (Below w.heap.size w (((((((((w41.setCell ⟨gb602, 0, none⟩ (.bool t592)).setCell ⟨gb602, 1, none⟩ (.int .u64 t593)).setCell ⟨gb602, 2, none⟩ (.int .u64 t594)).setCell ⟨gb602, 3, none⟩ (.bool t595)).setCell ⟨gb602, 4, none⟩ (.int .u64 t596)).setCell ⟨gb602, 5, none⟩ (.int .u64 t597)).setCell ⟨gb602, 6, none⟩ (.int .i64 t598)).setCell ⟨gb602, 7, none⟩ (.int .i64 t599)).setCell ⟨gb602, 8, none⟩ (.string t600))) := ⟨by repeat (first | (with_reducible first | exact HB.out | apply below_alloc | apply pw_below_drewN | apply below_drew1 | refine below_set ?_ GE565.out | refine below_set ?_ GE578.out | refine below_set ?_ GE590.out | refine below_set ?_ GE602.out) | exact HB.out)⟩
      (try clear BK565)
      (try clear BK578)
      (try clear BK590)
      (try clear BK602)
      (try clear HB)
      generalize (((((((((w41.setCell ⟨gb602, 0, none⟩ (.bool t592)).setCell ⟨gb602, 1, none⟩ (.int .u64 t593)).setCell ⟨gb602, 2, none⟩ (.int .u64 t594)).setCell ⟨gb602, 3, none⟩ (.bool t595)).setCell ⟨gb602, 4, none⟩ (.int .u64 t596)).setCell ⟨gb602, 5, none⟩ (.int .u64 t597)).setCell ⟨gb602, 6, none⟩ (.int .i64 t598)).setCell ⟨gb602, 7, none⟩ (.int .i64 t599)).setCell ⟨gb602, 8, none⟩ (.string t600)) = w42 at n0_ n1_ n2_ n3_ n4_ ⊢
      have BK565 := n0_
      have BK578 := n1_
      have BK590 := n2_
      have BK602 := n3_
      have HB := n4_
      clear n0_ n1_ n2_ n3_ n4_
      replace BK565 := As (blk_drew BK565.out)
      replace BK578 := As (blk_drew BK578.out)
      replace BK590 := As (blk_drew BK590.out)
      replace BK602 := As (blk_drew BK602.out)
      replace HB := As (below_drew1 HB.out)
      have p33 : 0 ≤ (0 : Int) := (by omega)
      have q33 : 0 < a2.size := (by have : (0 : Int) < (a2.size : Int) := of_decide_eq_true (by first | (with_reducible assumption) | assumption); omega)
      have hx33 : ∀ h : 0 < a2.size, ((a2[0]'h).toNat : Int) = bt a2 0 := bt_at a2 0
      clear p33
      have qi33 : (0 < (a2.size : Int)) = True := eq_true (of_decide_eq_true (by first | (with_reducible assumption) | assumption))
      replace q33 := eq_true q33
      refine start_ (n := 17) (S := fun w' => w'.cell? ⟨gb602, 0, none⟩ = some (.bool t592) ∧ w'.cell? ⟨gb602, 1, none⟩ = some (.int .u64 t593) ∧ w'.cell? ⟨gb602, 2, none⟩ = some (.int .u64 t594) ∧ w'.cell? ⟨gb602, 3, none⟩ = some (.bool t595) ∧ w'.cell? ⟨gb602, 4, none⟩ = some (.int .u64 t596) ∧ w'.cell? ⟨gb602, 5, none⟩ = some (.int .u64 t597) ∧ w'.cell? ⟨gb602, 6, none⟩ = some (.int .i64 t598) ∧ w'.cell? ⟨gb602, 7, none⟩ = some (.int .i64 t599) ∧ w'.cell? ⟨gb602, 8, none⟩ = some (.string t600)) (ds := []) #[O, O, O, O, O, O, O, O, O, O, O, O, O, O, O, O, O] (by kernel_rfl) rfl rfl ⟨kC BK602.out 0, kC BK602.out 1, kC BK602.out 2, kC BK602.out 3, kC BK602.out 4, kC BK602.out 5, kC BK602.out 6, kC BK602.out 7, kC BK602.out 8⟩ (fun hHeld => ?_); refine with_tabW intrusionlaw17_TunnelRoundTrip.tab11 intrusionlaw17_TunnelRoundTrip.bits11 (fun HT_ HW_ => ?_)
      generalize w42.drew = w43 at BK565 BK578 BK590 BK602 HB hHeld ⊢
      refine kP 0 74 #[I, O, O, O, O, O, O, O, O, O, O, O, O, O, O, O, O] ?_ (any_of HT_.out (by kernel_rfl))
      refine kP 1 75 #[I, I, O, O, O, O, O, O, O, O, O, O, O, O, O, O, O] ?_ (any_of HT_.out (by kernel_rfl))
      refine kP 2 76 #[I, I, I, O, O, O, O, O, O, O, O, O, O, O, O, O, O] ?_ (any_of HT_.out (by kernel_rfl))
      refine kP 3 77 #[I, I, I, I, O, O, O, O, O, O, O, O, O, O, O, O, O] ?_ (any_of HT_.out (by kernel_rfl))
      refine kP 4 78 #[I, I, I, I, I, O, O, O, O, O, O, O, O, O, O, O, O] ?_ (any_of HT_.out (by kernel_rfl))
      refine kP 5 79 #[I, I, I, I, I, I, O, O, O, O, O, O, O, O, O, O, O] ?_ (any_of HT_.out (by kernel_rfl))
      refine kP 7 81 #[I, I, I, I, I, I, O, I, O, O, O, O, O, O, O, O, O] ?_ (any_of HT_.out (by kernel_rfl))
      refine kP 12 86 #[I, I, I, I, I, I, O, I, O, O, O, O, I, O, O, O, O] ?_ (any_of HT_.out (by kernel_rfl))
      refine take_ (i := 6) (N := some 80) (v := ?_) (a' := ?_) #[I, I, I, I, I, I, I, I, O, O, O, O, I, O, O, O, O] rfl rfl (take_ofW HT_.out HW_.out (by kernel_rfl)) (fun _ _ _ h => h) (Or.inl ⟨by rfl, ?_⟩) hHeld ?_ ?_
      rotate_left
      ·rintro w' ⟨s0, s1, s2, s3, s4, s5, s6, s7, s8⟩
       go_simp
       with_reducible rfl
      rotate_left
      ·simp only [Act.put, sA, sZ, sS, i64_w, i32_w]
       rfl
      refine take_ (i := 8) (N := some 82) (v := ?_) (a' := ?_) #[I, I, I, I, I, I, I, I, I, O, O, O, I, O, O, O, O] rfl rfl (take_ofW HT_.out HW_.out (by kernel_rfl)) (fun _ _ _ h => h) (Or.inl ⟨by rfl, ?_⟩) hHeld ?_ ?_
      rotate_left
      ·rintro w' ⟨s0, s1, s2, s3, s4, s5, s6, s7, s8⟩
       go_simp
       with_reducible rfl
      rotate_left
      ·simp only [Act.put, sA, sZ, sS, i64_w, i32_w]
       rfl
      refine kP 9 83 #[I, I, I, I, I, I, I, I, I, I, O, O, I, O, O, O, O] ?_ (any_of HT_.out (by kernel_rfl))
      refine kP 10 84 #[I, I, I, I, I, I, I, I, I, I, I, O, I, O, O, O, O] ?_ (any_of HT_.out (by kernel_rfl))
      refine kP 11 85 #[I, I, I, I, I, I, I, I, I, I, I, I, I, O, O, O, O] ?_ (any_of HT_.out (by kernel_rfl))
      refine one_ (i := 13) (N := some 87) #[I, I, I, I, I, I, I, I, I, I, I, I, I, I, O, O, O] rfl rfl (one_of HT_.out (by kernel_rfl)) (by decide) (fun K hK => ?_)
      refine goes_ Tryd.func19 (by kernel_rfl) rfl #[.agg #[.bool t592, .int .u64 t593, .int .u64 t594, .bool t595, .int .u64 t596, .int .u64 t597, .int .i64 t598, .int .i64 t599, .string t600], .int .i64 (wrap64 ((wrap64 (Int.tdiv (wrap64 (bt a2 0)) 32)) - 1)), .string a2] (by rfl) rfl rfl kA ?_
      with_reducible refine (intrusionlaw17_unwraps.calls kj19 t592 t593 t594 t595 t596 t597 t598 t599 t600 (wrap64 ((wrap64 (Int.tdiv (wrap64 (bt a2 0)) 32)) - 1)) a2 true _ ?side1 A34.out).mono ?_
      (case side1 => exact laid_below HLD.out (by repeat (first | (with_reducible first | exact HB.out | apply below_alloc | apply pw_below_drewN | apply below_drew1 | refine below_set ?_ GE565.out | refine below_set ?_ GE578.out | refine below_set ?_ GE590.out | refine below_set ?_ GE602.out) | exact HB.out)))
      rintro e w44 ⟨rfl, hb⟩
      refine ⟨_, rfl, ?_⟩
      replace BK565 := As (blk_below (kb BK565.out) hb)
      replace BK578 := As (blk_below (kb BK578.out) hb)
      replace BK590 := As (blk_below (kb BK590.out) hb)
      replace BK602 := As (blk_below (kb BK602.out) hb)
      replace HB := As (below_step (by repeat (first | (with_reducible first | exact HB.out | apply below_alloc | apply pw_below_drewN | apply below_drew1 | refine below_set ?_ GE565.out | refine below_set ?_ GE578.out | refine below_set ?_ GE590.out | refine below_set ?_ GE602.out) | exact HB.out)) hb)
      (try clear hb)
      (try clear hb2)
      (try clear hk)
      (try clear hi)
      refine hK.out _ _ ⟨kC BK602.out 0, kC BK602.out 1, kC BK602.out 2, kC BK602.out 3, kC BK602.out 4, kC BK602.out 5, kC BK602.out 6, kC BK602.out 7, kC BK602.out 8⟩ (fun hHeld => ?_)
      clear hK K
      refine norm_ (a' := ?_) ?_ ?_
      rotate_left
      ·show Act.put _ (some 87) _ = _
       simp only [Act.put, sA, sZ, sS, i64_w, i32_w]
       rfl
      refine kP 14 88 #[I, I, I, I, I, I, I, I, I, I, I, I, I, I, I, O, O] ?_ (any_of HT_.out (by kernel_rfl))
      refine kP 15 89 #[I, I, I, I, I, I, I, I, I, I, I, I, I, I, I, I, O] ?_ (any_of HT_.out (by kernel_rfl))
      refine kP 16 90 #[I, I, I, I, I, I, I, I, I, I, I, I, I, I, I, I, I] ?_ (any_of HT_.out (by kernel_rfl))
      refine done_ (done_of HT_.out (by kernel_rfl)) ?_
      try go_wp2_with (first | ((with_reducible refine gate_callee (f := 11) rfl ?_); refine goesL_ (some 91) rfl rfl Tryd.func11 (by kernel_rfl) rfl #[] rfl kA ?_; (with_reducible refine (intrusionlaw17_awake.calls kj19  t604 _ ?side1 A36.out).mono ?_); (case side1 => exact laid_below HLD.out (by repeat (first | (with_reducible first | exact HB.out | apply below_alloc | apply pw_below_drewN | apply below_drew1 | refine below_set ?_ GE565.out | refine below_set ?_ GE578.out | refine below_set ?_ GE590.out | refine below_set ?_ GE602.out) | exact HB.out))); rintro e w45 ⟨rfl, hb⟩; refine ⟨_, rfl, ?_⟩; replace BK565 := As (blk_below (kb BK565.out) hb); replace BK578 := As (blk_below (kb BK578.out) hb); replace BK590 := As (blk_below (kb BK590.out) hb); replace BK602 := As (blk_below (kb BK602.out) hb); replace HB := As (below_step (by repeat (first | (with_reducible first | exact HB.out | apply below_alloc | apply pw_below_drewN | apply below_drew1 | refine below_set ?_ GE565.out | refine below_set ?_ GE578.out | refine below_set ?_ GE590.out | refine below_set ?_ GE602.out) | exact HB.out)) hb); (try clear hb)))
      go_ret
      exact ⟨kE, by repeat (first | (with_reducible first | exact HB.out | apply below_alloc | apply pw_below_drewN | apply below_drew1 | refine below_set ?_ GE565.out | refine below_set ?_ GE578.out | refine below_set ?_ GE590.out | refine below_set ?_ GE602.out) | exact HB.out)⟩
     replace c35 := Bool.eq_false_iff.mpr c35
     subst c35
     have H1 : (none) = some r := by rw [if_neg (show ¬ (false = true) by decide)] at H; exact H
     clear H
     have H := H1
     clear H1
     exact absurd H (by simp)
    rw [if_neg c32] at H
    exact absurd H (by simp)
   rw [if_neg c30] at H
   have c30b0 : (t601 == 0) = false := beq_eq_false_iff_ne.mpr c30
   have c30b1 : (t601 != 0) = true := bne_iff_ne.mpr c30
   replace H := Option.bind_eq_some_iff.mp H
   obtain ⟨t605, A460, H⟩ := H
   replace H : (some t605) = some r := H
   have A46 := As A460
   clear A460
   obtain rfl := Option.some.inj H
   have hnb47 := NB565_578.out
   have hnc47 := NB578_565.out
   have hnb48 := NB565_590.out
   have hnc48 := NB590_565.out
   have hcz49_0 := cells_6 BK565.out
   have hfz49_0 := fun j_ => blk_frozen BK565.out j_
   try go_wp2_with (first | ((with_reducible refine gate_callee (f := 17) rfl ?_); refine goesL_ (some 71) rfl rfl Tryd.func17 (by kernel_rfl) rfl #[.agg #[.bool b0, .int .u64 b1, .int .u64 b2], .agg #[.bool b3, .int .u64 b4, .int .u64 b5], .string a2] rfl kA ?_; (with_reducible refine (tunnel_WrapIp.calls kj19 b0 b1 b2 b3 b4 b5 a2 t592 t593 t594 t595 t596 t597 t598 t599 t600 t601 _ A29.out).mono ?_); rintro e w50 ⟨rfl, hb⟩; refine ⟨_, rfl, ?_⟩; replace BK565 := As (blk_below (kb BK565.out) hb); replace BK578 := As (blk_below (kb BK578.out) hb); replace BK590 := As (blk_below (kb BK590.out) hb); replace HB := As (below_step (kB3 HB.out GE565.out GE578.out GE590.out) hb); (try clear hb)) | ((with_reducible refine gate_dst (N := 11) rfl ?_); refine box_event rfl (N := 11) rfl (cs := #[.bool false, .int .u64 0, .int .u64 0, .bool false, .int .u64 0, .int .u64 0, .int .i64 0, .int .i64 0, .string (⟨#[]⟩ : ByteArray)]) (t := 30) kG ?_; intro gb602 hg w51 hbox hb; have BK602 := As (hbox); have GW602 := As ((by rw [hg]; exact (below_size (kB3 HB.out GE565.out GE578.out GE590.out)) : w.heap.size ≤ gb602)); have GE602 := As ((by rw [hg]; exact (below_size (kB3 HB.out GE565.out GE578.out GE590.out)) : w.heap.size ≤ gb602)); replace HB := As (below_step (kB3 HB.out GE565.out GE578.out GE590.out) hb); have NB565_602 := As ((by rw [hg]; exact Nat.ne_of_lt (blk_lt (kb BK565.out)) : gb565 ≠ gb602)); have NB602_565 := As ((by rw [hg]; exact Nat.ne_of_gt (blk_lt (kb BK565.out)) : gb602 ≠ gb565)); replace BK565 := As (blk_below (kb BK565.out) hb); have NB578_602 := As ((by rw [hg]; exact Nat.ne_of_lt (blk_lt (kb BK578.out)) : gb578 ≠ gb602)); have NB602_578 := As ((by rw [hg]; exact Nat.ne_of_gt (blk_lt (kb BK578.out)) : gb602 ≠ gb578)); replace BK578 := As (blk_below (kb BK578.out) hb); have NB590_602 := As ((by rw [hg]; exact Nat.ne_of_lt (blk_lt (kb BK590.out)) : gb590 ≠ gb602)); have NB602_590 := As ((by rw [hg]; exact Nat.ne_of_gt (blk_lt (kb BK590.out)) : gb602 ≠ gb590)); replace BK590 := As (blk_below (kb BK590.out) hb); clear hb hbox hg) | ((with_reducible refine gate_store (t := 30) (p := 11) rfl ?_); refine store_rowev_9 gb602 (.bool t592) (.int .u64 t593) (.int .u64 t594) (.bool t595) (.int .u64 t596) (.int .u64 t597) (.int .i64 t598) (.int .i64 t599) (.string t600) rfl (t := 30) (p := 11) (v := _) rfl rfl rfl rfl (t' := 30) (kb BK602.out) (by rfl) (by kernel_rfl) (by rfl) ?_))
   have n0_ : Aside0 ((((((((((w51.setCell ⟨gb602, 0, none⟩ (.bool t592)).setCell ⟨gb602, 1, none⟩ (.int .u64 t593)).setCell ⟨gb602, 2, none⟩ (.int .u64 t594)).setCell ⟨gb602, 3, none⟩ (.bool t595)).setCell ⟨gb602, 4, none⟩ (.int .u64 t596)).setCell ⟨gb602, 5, none⟩ (.int .u64 t597)).setCell ⟨gb602, 6, none⟩ (.int .i64 t598)).setCell ⟨gb602, 7, none⟩ (.int .i64 t599)).setCell ⟨gb602, 8, none⟩ (.string t600)).heap[gb565]? = some (.cells #[.bool b0, .int .u64 b1, .int .u64 b2, .bool b3, .int .u64 b4, .int .u64 b5] 26 (0, 0))) := ⟨by refine kb ?_; (iterate 9 (refine blk_far ?_ NB565_602.out _; refine kb ?_)); exact BK565.out⟩
   have n1_ : Aside0 ((((((((((w51.setCell ⟨gb602, 0, none⟩ (.bool t592)).setCell ⟨gb602, 1, none⟩ (.int .u64 t593)).setCell ⟨gb602, 2, none⟩ (.int .u64 t594)).setCell ⟨gb602, 3, none⟩ (.bool t595)).setCell ⟨gb602, 4, none⟩ (.int .u64 t596)).setCell ⟨gb602, 5, none⟩ (.int .u64 t597)).setCell ⟨gb602, 6, none⟩ (.int .i64 t598)).setCell ⟨gb602, 7, none⟩ (.int .i64 t599)).setCell ⟨gb602, 8, none⟩ (.string t600)).heap[gb578]? = some (.cells #[.bool t568, .int .u64 t569, .int .u64 t570, .bool t571, .int .u64 t572, .int .u64 t573, .int .i64 t574, .int .i64 t575, .string t576] 30 (0, 0))) := ⟨by refine kb ?_; (iterate 9 (refine blk_far ?_ NB578_602.out _; refine kb ?_)); exact BK578.out⟩
   have n2_ : Aside0 ((((((((((w51.setCell ⟨gb602, 0, none⟩ (.bool t592)).setCell ⟨gb602, 1, none⟩ (.int .u64 t593)).setCell ⟨gb602, 2, none⟩ (.int .u64 t594)).setCell ⟨gb602, 3, none⟩ (.bool t595)).setCell ⟨gb602, 4, none⟩ (.int .u64 t596)).setCell ⟨gb602, 5, none⟩ (.int .u64 t597)).setCell ⟨gb602, 6, none⟩ (.int .i64 t598)).setCell ⟨gb602, 7, none⟩ (.int .i64 t599)).setCell ⟨gb602, 8, none⟩ (.string t600)).heap[gb590]? = some (.cells #[.bool t580, .int .u64 t581, .int .u64 t582, .bool t583, .int .u64 t584, .int .u64 t585, .int .i64 t586, .int .i64 t587, .string t588] 30 (0, 0))) := ⟨by refine kb ?_; (iterate 9 (refine blk_far ?_ NB590_602.out _; refine kb ?_)); exact BK590.out⟩
   have n3_ : Aside0 ((((((((((w51.setCell ⟨gb602, 0, none⟩ (.bool t592)).setCell ⟨gb602, 1, none⟩ (.int .u64 t593)).setCell ⟨gb602, 2, none⟩ (.int .u64 t594)).setCell ⟨gb602, 3, none⟩ (.bool t595)).setCell ⟨gb602, 4, none⟩ (.int .u64 t596)).setCell ⟨gb602, 5, none⟩ (.int .u64 t597)).setCell ⟨gb602, 6, none⟩ (.int .i64 t598)).setCell ⟨gb602, 7, none⟩ (.int .i64 t599)).setCell ⟨gb602, 8, none⟩ (.string t600)).heap[gb602]? = some (.cells #[.bool t592, .int .u64 t593, .int .u64 t594, .bool t595, .int .u64 t596, .int .u64 t597, .int .i64 t598, .int .i64 t599, .string t600] 30 (0, 0))) := ⟨by refine kb ?_; exact blk_all_9 (kb BK602.out) (by rfl)⟩
   have n4_ : Aside0 (Below w.heap.size w (((((((((w51.setCell ⟨gb602, 0, none⟩ (.bool t592)).setCell ⟨gb602, 1, none⟩ (.int .u64 t593)).setCell ⟨gb602, 2, none⟩ (.int .u64 t594)).setCell ⟨gb602, 3, none⟩ (.bool t595)).setCell ⟨gb602, 4, none⟩ (.int .u64 t596)).setCell ⟨gb602, 5, none⟩ (.int .u64 t597)).setCell ⟨gb602, 6, none⟩ (.int .i64 t598)).setCell ⟨gb602, 7, none⟩ (.int .i64 t599)).setCell ⟨gb602, 8, none⟩ (.string t600))) := ⟨by repeat (first | (with_reducible first | exact HB.out | apply below_alloc | apply pw_below_drewN | apply below_drew1 | refine below_set ?_ GE565.out | refine below_set ?_ GE578.out | refine below_set ?_ GE590.out | refine below_set ?_ GE602.out) | exact HB.out)⟩
   (try clear BK565)
   (try clear BK578)
   (try clear BK590)
   (try clear BK602)
   (try clear HB)
   generalize (((((((((w51.setCell ⟨gb602, 0, none⟩ (.bool t592)).setCell ⟨gb602, 1, none⟩ (.int .u64 t593)).setCell ⟨gb602, 2, none⟩ (.int .u64 t594)).setCell ⟨gb602, 3, none⟩ (.bool t595)).setCell ⟨gb602, 4, none⟩ (.int .u64 t596)).setCell ⟨gb602, 5, none⟩ (.int .u64 t597)).setCell ⟨gb602, 6, none⟩ (.int .i64 t598)).setCell ⟨gb602, 7, none⟩ (.int .i64 t599)).setCell ⟨gb602, 8, none⟩ (.string t600)) = w52 at n0_ n1_ n2_ n3_ n4_ ⊢
   have BK565 := n0_
   have BK578 := n1_
   have BK590 := n2_
   have BK602 := n3_
   have HB := n4_
   clear n0_ n1_ n2_ n3_ n4_
   replace BK565 := As (blk_drew BK565.out)
   replace BK578 := As (blk_drew BK578.out)
   replace BK590 := As (blk_drew BK590.out)
   replace BK602 := As (blk_drew BK602.out)
   replace HB := As (below_drew1 HB.out)
   refine start_ (n := 17) (S := fun w' => True) (ds := []) #[O, O, O, O, O, O, O, O, O, O, O, O, O, O, O, O, O] (by kernel_rfl) rfl rfl trivial (fun hHeld => ?_); refine with_tabW intrusionlaw17_TunnelRoundTrip.tab11 intrusionlaw17_TunnelRoundTrip.bits11 (fun HT_ HW_ => ?_)
   generalize w52.drew = w53 at BK565 BK578 BK590 BK602 HB hHeld ⊢
   refine kP 0 74 #[I, O, O, O, O, O, O, O, O, O, O, O, O, O, O, O, O] ?_ (any_of HT_.out (by kernel_rfl))
   refine kP 1 75 #[I, I, O, O, O, O, O, O, O, O, O, O, O, O, O, O, O] ?_ (any_of HT_.out (by kernel_rfl))
   refine kP 2 76 #[I, I, I, O, O, O, O, O, O, O, O, O, O, O, O, O, O] ?_ (any_of HT_.out (by kernel_rfl))
   refine pure_ (i := 3) (N := some 77) (v := undef) (a' := ?_) #[I, I, I, I, O, O, O, O, O, O, O, O, O, O, O, O, O] rfl rfl (any_of HT_.out (by kernel_rfl)) (fun _ _ _ h => h) (Or.inr ⟨by rfl, rfl⟩) ?_ ?_
   rotate_left
   ·simp only [Act.put, sA, sZ, sS, i64_w, i32_w]
    rfl
   refine pure_ (i := 4) (N := some 78) (v := undef) (a' := ?_) #[I, I, I, I, I, O, O, O, O, O, O, O, O, O, O, O, O] rfl rfl (any_of HT_.out (by kernel_rfl)) (fun _ _ _ h => h) (Or.inr ⟨by rfl, rfl⟩) ?_ ?_
   rotate_left
   ·simp only [Act.put, sA, sZ, sS, i64_w, i32_w]
    rfl
   refine pure_ (i := 5) (N := some 79) (v := undef) (a' := ?_) #[I, I, I, I, I, I, O, O, O, O, O, O, O, O, O, O, O] rfl rfl (any_of HT_.out (by kernel_rfl)) (fun _ _ _ h => h) (Or.inr ⟨by rfl, rfl⟩) ?_ ?_
   rotate_left
   ·simp only [Act.put, sA, sZ, sS, i64_w, i32_w]
    rfl
   refine pure_ (i := 6) (N := some 80) (v := undef) (a' := ?_) #[I, I, I, I, I, I, I, O, O, O, O, O, O, O, O, O, O] rfl rfl (any_of HT_.out (by kernel_rfl)) (fun _ _ _ h => h) (Or.inr ⟨by rfl, rfl⟩) ?_ ?_
   rotate_left
   ·simp only [Act.put, sA, sZ, sS, i64_w, i32_w]
    rfl
   refine pure_ (i := 7) (N := some 81) (v := undef) (a' := ?_) #[I, I, I, I, I, I, I, I, O, O, O, O, O, O, O, O, O] rfl rfl (any_of HT_.out (by kernel_rfl)) (fun _ _ _ h => h) (Or.inr ⟨by rfl, rfl⟩) ?_ ?_
   rotate_left
   ·simp only [Act.put, sA, sZ, sS, i64_w, i32_w]
    rfl
   refine pure_ (i := 8) (N := some 82) (v := undef) (a' := ?_) #[I, I, I, I, I, I, I, I, I, O, O, O, O, O, O, O, O] rfl rfl (any_of HT_.out (by kernel_rfl)) (fun _ _ _ h => h) (Or.inr ⟨by rfl, rfl⟩) ?_ ?_
   rotate_left
   ·simp only [Act.put, sA, sZ, sS, i64_w, i32_w]
    rfl
   refine pure_ (i := 9) (N := some 83) (v := undef) (a' := ?_) #[I, I, I, I, I, I, I, I, I, I, O, O, O, O, O, O, O] rfl rfl (any_of HT_.out (by kernel_rfl)) (fun _ _ _ h => h) (Or.inr ⟨by rfl, rfl⟩) ?_ ?_
   rotate_left
   ·simp only [Act.put, sA, sZ, sS, i64_w, i32_w]
    rfl
   refine pure_ (i := 10) (N := some 84) (v := undef) (a' := ?_) #[I, I, I, I, I, I, I, I, I, I, I, O, O, O, O, O, O] rfl rfl (any_of HT_.out (by kernel_rfl)) (fun _ _ _ h => h) (Or.inr ⟨by rfl, rfl⟩) ?_ ?_
   rotate_left
   ·simp only [Act.put, sA, sZ, sS, i64_w, i32_w]
    rfl
   refine pure_ (i := 11) (N := some 85) (v := undef) (a' := ?_) #[I, I, I, I, I, I, I, I, I, I, I, I, O, O, O, O, O] rfl rfl (any_of HT_.out (by kernel_rfl)) (fun _ _ _ h => h) (Or.inr ⟨by rfl, rfl⟩) ?_ ?_
   rotate_left
   ·simp only [Act.put, sA, sZ, sS, i64_w, i32_w]
    rfl
   refine pure_ (i := 12) (N := some 86) (v := undef) (a' := ?_) #[I, I, I, I, I, I, I, I, I, I, I, I, I, O, O, O, O] rfl rfl (any_of HT_.out (by kernel_rfl)) (fun _ _ _ h => h) (Or.inr ⟨by rfl, rfl⟩) ?_ ?_
   rotate_left
   ·simp only [Act.put, sA, sZ, sS, i64_w, i32_w]
    rfl
   refine pure_ (i := 13) (N := some 87) (v := undef) (a' := ?_) #[I, I, I, I, I, I, I, I, I, I, I, I, I, I, O, O, O] rfl rfl (any_of HT_.out (by kernel_rfl)) (fun _ _ _ h => h) (Or.inr ⟨by rfl, rfl⟩) ?_ ?_
   rotate_left
   ·simp only [Act.put, sA, sZ, sS, i64_w, i32_w]
    rfl
   refine pure_ (i := 14) (N := some 88) (v := undef) (a' := ?_) #[I, I, I, I, I, I, I, I, I, I, I, I, I, I, I, O, O] rfl rfl (any_of HT_.out (by kernel_rfl)) (fun _ _ _ h => h) (Or.inr ⟨by rfl, rfl⟩) ?_ ?_
   rotate_left
   ·simp only [Act.put, sA, sZ, sS, i64_w, i32_w]
    rfl
   refine pure_ (i := 15) (N := some 89) (v := undef) (a' := ?_) #[I, I, I, I, I, I, I, I, I, I, I, I, I, I, I, I, O] rfl rfl (any_of HT_.out (by kernel_rfl)) (fun _ _ _ h => h) (Or.inr ⟨by rfl, rfl⟩) ?_ ?_
   rotate_left
   ·simp only [Act.put, sA, sZ, sS, i64_w, i32_w]
    rfl
   refine kP 16 90 #[I, I, I, I, I, I, I, I, I, I, I, I, I, I, I, I, I] ?_ (any_of HT_.out (by kernel_rfl))
   refine done_ (done_of HT_.out (by kernel_rfl)) ?_
   try go_wp2_with (first | ((with_reducible refine gate_callee (f := 11) rfl ?_); refine goesL_ (some 91) rfl rfl Tryd.func11 (by kernel_rfl) rfl #[] rfl kA ?_; (with_reducible refine (intrusionlaw17_awake.calls kj19  t605 _ ?side1 A46.out).mono ?_); (case side1 => exact laid_below HLD.out (by repeat (first | (with_reducible first | exact HB.out | apply below_alloc | apply pw_below_drewN | apply below_drew1 | refine below_set ?_ GE565.out | refine below_set ?_ GE578.out | refine below_set ?_ GE590.out | refine below_set ?_ GE602.out) | exact HB.out))); rintro e w54 ⟨rfl, hb⟩; refine ⟨_, rfl, ?_⟩; replace BK565 := As (blk_below (kb BK565.out) hb); replace BK578 := As (blk_below (kb BK578.out) hb); replace BK590 := As (blk_below (kb BK590.out) hb); replace BK602 := As (blk_below (kb BK602.out) hb); replace HB := As (below_step (by repeat (first | (with_reducible first | exact HB.out | apply below_alloc | apply pw_below_drewN | apply below_drew1 | refine below_set ?_ GE565.out | refine below_set ?_ GE578.out | refine below_set ?_ GE590.out | refine below_set ?_ GE602.out) | exact HB.out)) hb); (try clear hb)))
   go_ret
   exact ⟨kE, by repeat (first | (with_reducible first | exact HB.out | apply below_alloc | apply pw_below_drewN | apply below_drew1 | refine below_set ?_ GE565.out | refine below_set ?_ GE578.out | refine below_set ?_ GE590.out | refine below_set ?_ GE602.out) | exact HB.out)⟩

end Go.Proofs.YtocobalkikkhlaaDoor.X
-- short
