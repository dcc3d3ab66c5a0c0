/- Functions and their walks, printed by xprint.py. -/
import Derived.Test.YtocobalkikkhlaaDoorX0
import Derived.Test.YtocobalkikkhlaaDoorX2
import Derived.Test.YtocobalkikkhlaaDoorX4
import Derived.Test.YtocobalkikkhlaaDoorX5
import Derived.Test.YtocobalkikkhlaaDoorX7
import Derived.Test.YtocobalkikkhlaaDoorX9
import Derived.Test.YtocobalkikkhlaaDoorX16
import Derived.Test.YtocobalkikkhlaaDoorX17
import Derived.Test.YtocobalkikkhlaaDoorX19
namespace Go.Proofs.YtocobalkikkhlaaDoor.X
open Go.RowKit Go.Proofs.YtocobalkikkhlaaDoorW.PrintWords Go.Proofs.YtocobalkikkhlaaDoorW.PrintLast Go.Proofs.YtocobalkikkhlaaDoorW.PrintMore
attribute [local go_sem] max2_int min2_int max_two min_two max_three min_three max_four min_four   -- for this text's walks alone
set_option linter.unusedVariables false
set_option linter.unusedSimpArgs false

attribute [local go_sem high] eqA30
/-! ### intrusionref17_Packet: function 15 -/
def intrusionref17_Packet.f (k : Nat) (b0 : Bool) (b1 : Int) (b2 : Int) (b3 : Bool) (b4 : Int) (b5 : Int) (b6 : Int) (b7 : Int) (b8 : ByteArray) (a1 : Int) : Option (ByteArray × Int) := if b0 = true then ((intrusionref12_Encode.f k 0 0 b7 b6 b0 b1 b2 b3 b4 b5 ([] : List (S91)) false 0 0 false b8).bind fun bt461 => (some (bt461.1, bt461.2))) else ((intrusionref11_Encode.f k 0 a1 b7 b6 false false 0 b0 b1 b2 b3 b4 b5 ([] : List (S125)) b8).bind fun bt463 => (some (bt463.1, bt463.2)))
theorem intrusionref17_Packet.mono : ∀ a0 a1 a2 a3 a4 a5 a6 a7 a8 a9 k, LeO (intrusionref17_Packet.f k a0 a1 a2 a3 a4 a5 a6 a7 a8 a9) (intrusionref17_Packet.f (k + 1) a0 a1 a2 a3 a4 a5 a6 a7 a8 a9) := by
 intro a0 a1 a2 a3 a4 a5 a6 a7 a8 a9 k
 unfold intrusionref17_Packet.f
 repeat' first | with_reducible first | apply intrusionref11_Encode.mono | apply intrusionref12_Encode.mono | apply LeO.refl | apply LeO.none | refine LeO.ite ?_ ?_ | refine LeO.bind ?_ (fun _ => ?_)
set_option maxHeartbeats 8000000 in
set_option maxRecDepth 100000 in
theorem intrusionref17_Packet.calls (k : Nat) (b0 : Bool) (b1 : Int) (b2 : Int) (b3 : Bool) (b4 : Int) (b5 : Int) (b6 : Int) (b7 : Int) (b8 : ByteArray) (a1 : Int) (r1 : ByteArray) (r2 : Int) (w : World) (h : intrusionref17_Packet.f k b0 b1 b2 b3 b4 b5 b6 b7 b8 a1 = some (r1, r2)) :
  Calls Tryd.prog 15 #[.agg #[.bool b0, .int .u64 b1, .int .u64 b2, .bool b3, .int .u64 b4, .int .u64 b5, .int .i64 b6, .int .i64 b7, .string b8], .int .i64 a1] w fun e w' => e = .returned (.tuple #[.string r1, .int .i64 r2]) ∧ Below w.heap.size w w' := by
 have hu30 := Tryd.underlying30
 have hu24 := Tryd.underlying24
 have hu60 := Tryd.underlying60
 have hu64 := Tryd.underlying64
 have HB := As (Below.refl w.heap.size w)
 have H : (if b0 = true then ((intrusionref12_Encode.f k 0 0 b7 b6 b0 b1 b2 b3 b4 b5 ([] : List (S91)) false 0 0 false b8).bind fun bt461 => (some (bt461.1, bt461.2))) else ((intrusionref11_Encode.f k 0 a1 b7 b6 false false 0 b0 b1 b2 b3 b4 b5 ([] : List (S125)) b8).bind fun bt463 => (some (bt463.1, bt463.2)))) = some (r1, r2) := h
 clear h
 by_cases c3 : b0 = true
 ·subst c3
  rw [if_pos rfl] at H
  replace H := Option.bind_eq_some_iff.mp H
  obtain ⟨⟨t461, t462⟩, A40, H⟩ := H
  replace H : (some (t461, t462)) = some (r1, r2) := H
  have A4 := As A40
  clear A40
  simp only [Option.some.injEq, Prod.mk.injEq] at H
  obtain ⟨rfl, rfl⟩ := H
  go_enter Tryd.func15, Tryd.ntmps15
  go_wp2_with (first | ((with_reducible refine gate_dst (N := 2) rfl ?_); refine box_event rfl (N := 2) rfl (cs := #[.bool true, .int .u64 b1, .int .u64 b2, .bool b3, .int .u64 b4, .int .u64 b5, .int .i64 b6, .int .i64 b7, .string b8]) (t := 30) kG ?_; intro gb460 hg w5 hbox hb; have BK460 := As (hbox); have GW460 := As ((by rw [hg]; exact (below_size (kB HB.out)) : w.heap.size ≤ gb460)); have GE460 := As ((by rw [hg]; exact (below_size (kB HB.out)) : w.heap.size ≤ gb460)); replace HB := As (below_step (kB HB.out) hb); clear hb hbox hg; have hcz6_0 := cells_9 BK460.out; have hfz6_0 := fun j_ => blk_frozen BK460.out j_) | ((with_reducible refine gate_callee (f := 37) rfl ?_); refine goesL_ (some 20) rfl rfl Tryd.func37 (by kernel_rfl) rfl #[.agg #[.int .i64 0, .int .i64 0, .int .i64 b7, .int .i64 b6, .bool true, .int .u64 b1, .int .u64 b2, .bool b3, .int .u64 b4, .int .u64 b5, .slice none 0 0, .bool false, .int .i64 0, .int .i64 0, .bool false, .string b8]] rfl kA ?_; (refine (intrusionref12_Encode.calls k 0 0 b7 b6 true b1 b2 b3 b4 b5 _ _ ([] : List (S91)) false 0 0 false b8 t461 t462 _ ?side1 ?side2 A4.out).mono ?_); (case side1 => exact Kd.C_nil _ _); (case side2 => exact Nat.le_refl _); rintro e w7 ⟨rfl, hb⟩; refine ⟨_, rfl, ?_⟩; replace BK460 := As (blk_below (kb BK460.out) hb); replace HB := As (below_step (kB1 HB.out GE460.out) hb); (try clear hb)))
  go_ret2
  exact ⟨kE, by exact kB1 HB.out GE460.out⟩
 replace c3 := Bool.eq_false_iff.mpr c3
 subst c3
 rw [if_neg (show ¬ (false = true) by decide)] at H
 replace H := Option.bind_eq_some_iff.mp H
 obtain ⟨⟨t463, t464⟩, A80, H⟩ := H
 replace H : (some (t463, t464)) = some (r1, r2) := H
 have A8 := As A80
 clear A80
 simp only [Option.some.injEq, Prod.mk.injEq] at H
 obtain ⟨rfl, rfl⟩ := H
 go_enter Tryd.func15, Tryd.ntmps15
 go_wp2_with (first | ((with_reducible refine gate_dst (N := 2) rfl ?_); refine box_event rfl (N := 2) rfl (cs := #[.bool false, .int .u64 b1, .int .u64 b2, .bool b3, .int .u64 b4, .int .u64 b5, .int .i64 b6, .int .i64 b7, .string b8]) (t := 30) kG ?_; intro gb460 hg w9 hbox hb; have BK460 := As (hbox); have GW460 := As ((by rw [hg]; exact (below_size (kB HB.out)) : w.heap.size ≤ gb460)); have GE460 := As ((by rw [hg]; exact (below_size (kB HB.out)) : w.heap.size ≤ gb460)); replace HB := As (below_step (kB HB.out) hb); clear hb hbox hg; have hcz10_0 := cells_9 BK460.out; have hfz10_0 := fun j_ => blk_frozen BK460.out j_) | ((with_reducible refine gate_callee (f := 38) rfl ?_); refine goesL_ (some 35) rfl rfl Tryd.func38 (by kernel_rfl) rfl #[.agg #[.int .i64 0, .int .i64 a1, .int .i64 b7, .int .i64 b6, .bool false, .bool false, .int .i64 0, .bool false, .int .u64 b1, .int .u64 b2, .bool b3, .int .u64 b4, .int .u64 b5, .slice none 0 0, .string b8]] rfl kA ?_; (refine (intrusionref11_Encode.calls k 0 a1 b7 b6 false false 0 false b1 b2 b3 b4 b5 _ _ ([] : List (S125)) b8 t463 t464 _ ?side1 ?side2 A8.out).mono ?_); (case side1 => exact Kd.C_nil _ _); (case side2 => exact Nat.le_refl _); rintro e w11 ⟨rfl, hb⟩; refine ⟨_, rfl, ?_⟩; replace BK460 := As (blk_below (kb BK460.out) hb); replace HB := As (below_step (kB1 HB.out GE460.out) hb); (try clear hb)))
 go_ret2
 exact ⟨kE, by exact kB1 HB.out GE460.out⟩

/-! ### intrusionlaw17_TunnelGre: function 3 -/
def intrusionlaw17_TunnelGre.f (k : Nat) (b0 : Bool) (b1 : Int) (b2 : Int) (b3 : Bool) (b4 : Int) (b5 : Int) (a1 : Int) (a2 : ByteArray) : Option (Bool) := (intrusionlaw17_long.f a2).bind fun t466 => (if t466 = true then ((intrusionlaw17_awake.f k).bind fun t467 => (some t467)) else ((tunnel_WrapGre.f k b0 b1 b2 b3 b4 b5 (Int.tmod a1 8) a2 ((a1) % 4294967296) ((Int.tmod a1 2) == 0)).bind fun bt468 => ((intrusionref17_WrapGre.f k b0 b1 b2 b3 b4 b5 (Int.tmod a1 8) a2 ((a1) % 4294967296) ((Int.tmod a1 2) == 0)).bind fun bt479 => ((tunnel_Packet.f k bt479.1 bt479.2.1 bt479.2.2.1 bt479.2.2.2.1 bt479.2.2.2.2.1 bt479.2.2.2.2.2.1 bt479.2.2.2.2.2.2.1 bt479.2.2.2.2.2.2.2.1 bt479.2.2.2.2.2.2.2.2.1 a1).bind fun bt490 => ((intrusionref17_Packet.f k bt479.1 bt479.2.1 bt479.2.2.1 bt479.2.2.2.1 bt479.2.2.2.2.1 bt479.2.2.2.2.2.1 bt479.2.2.2.2.2.2.1 bt479.2.2.2.2.2.2.2.1 bt479.2.2.2.2.2.2.2.2.1 a1).bind fun bt492 => (if ((bt468.1 == bt479.1 && (bt468.2.1 == bt479.2.1 && (bt468.2.2.1 == bt479.2.2.1))) && ((bt468.2.2.2.1 == bt479.2.2.2.1 && (bt468.2.2.2.2.1 == bt479.2.2.2.2.1 && (bt468.2.2.2.2.2.1 == bt479.2.2.2.2.2.1))) && (bt468.2.2.2.2.2.2.1 == bt479.2.2.2.2.2.2.1 && (bt468.2.2.2.2.2.2.2.1 == bt479.2.2.2.2.2.2.2.1 && (bt468.2.2.2.2.2.2.2.2.1.toList == bt479.2.2.2.2.2.2.2.2.1.toList))))) = true then (if bt468.2.2.2.2.2.2.2.2.2 = bt479.2.2.2.2.2.2.2.2.2 then (if bt490.1.toList = bt492.1.toList then (if bt490.2 = bt492.2 then ((intrusionlaw17_awake.f k).bind fun t494 => (some t494)) else (none)) else (none)) else (none)) else (none)))))))
theorem intrusionlaw17_TunnelGre.mono : ∀ a0 a1 a2 a3 a4 a5 a6 a7 k, LeO (intrusionlaw17_TunnelGre.f k a0 a1 a2 a3 a4 a5 a6 a7) (intrusionlaw17_TunnelGre.f (k + 1) a0 a1 a2 a3 a4 a5 a6 a7) := by
 intro a0 a1 a2 a3 a4 a5 a6 a7 k
 unfold intrusionlaw17_TunnelGre.f
 repeat' first | with_reducible first | apply intrusionlaw17_awake.mono | apply intrusionref17_Packet.mono | apply intrusionref17_WrapGre.mono | apply tunnel_Packet.mono | apply tunnel_WrapGre.mono | apply LeO.refl | apply LeO.none | refine LeO.ite ?_ ?_ | refine LeO.bind ?_ (fun _ => ?_)
set_option maxHeartbeats 8000000 in
set_option maxRecDepth 100000 in
theorem intrusionlaw17_TunnelGre.calls (k : Nat) (b0 : Bool) (b1 : Int) (b2 : Int) (b3 : Bool) (b4 : Int) (b5 : Int) (a1 : Int) (a2 : ByteArray) (r : Bool) (w : World) (hLd : Laid w) (h : intrusionlaw17_TunnelGre.f k b0 b1 b2 b3 b4 b5 a1 a2 = some r) :
  Calls Tryd.prog 3 #[.agg #[.bool b0, .int .u64 b1, .int .u64 b2, .bool b3, .int .u64 b4, .int .u64 b5], .int .i64 a1, .string a2] w fun e w' => e = .returned (.bool r) ∧ Below w.heap.size w w' := by
 have hu26 := Tryd.underlying26
 have hu24 := Tryd.underlying24
 have hu30 := Tryd.underlying30
 have HLD := As hLd
 clear hLd
 have HB := As (Below.refl w.heap.size w)
 have H : ((intrusionlaw17_long.f a2).bind fun t466 => (if t466 = true then ((intrusionlaw17_awake.f k).bind fun t467 => (some t467)) else ((tunnel_WrapGre.f k b0 b1 b2 b3 b4 b5 (Int.tmod a1 8) a2 ((a1) % 4294967296) ((Int.tmod a1 2) == 0)).bind fun bt468 => ((intrusionref17_WrapGre.f k b0 b1 b2 b3 b4 b5 (Int.tmod a1 8) a2 ((a1) % 4294967296) ((Int.tmod a1 2) == 0)).bind fun bt479 => ((tunnel_Packet.f k bt479.1 bt479.2.1 bt479.2.2.1 bt479.2.2.2.1 bt479.2.2.2.2.1 bt479.2.2.2.2.2.1 bt479.2.2.2.2.2.2.1 bt479.2.2.2.2.2.2.2.1 bt479.2.2.2.2.2.2.2.2.1 a1).bind fun bt490 => ((intrusionref17_Packet.f k bt479.1 bt479.2.1 bt479.2.2.1 bt479.2.2.2.1 bt479.2.2.2.2.1 bt479.2.2.2.2.2.1 bt479.2.2.2.2.2.2.1 bt479.2.2.2.2.2.2.2.1 bt479.2.2.2.2.2.2.2.2.1 a1).bind fun bt492 => (if ((bt468.1 == bt479.1 && (bt468.2.1 == bt479.2.1 && (bt468.2.2.1 == bt479.2.2.1))) && ((bt468.2.2.2.1 == bt479.2.2.2.1 && (bt468.2.2.2.2.1 == bt479.2.2.2.2.1 && (bt468.2.2.2.2.2.1 == bt479.2.2.2.2.2.1))) && (bt468.2.2.2.2.2.2.1 == bt479.2.2.2.2.2.2.1 && (bt468.2.2.2.2.2.2.2.1 == bt479.2.2.2.2.2.2.2.1 && (bt468.2.2.2.2.2.2.2.2.1.toList == bt479.2.2.2.2.2.2.2.2.1.toList))))) = true then (if bt468.2.2.2.2.2.2.2.2.2 = bt479.2.2.2.2.2.2.2.2.2 then (if bt490.1.toList = bt492.1.toList then (if bt490.2 = bt492.2 then ((intrusionlaw17_awake.f k).bind fun t494 => (some t494)) else (none)) else (none)) else (none)) else (none)))))))) = some r := h
 clear h
 replace H := bS H
 obtain ⟨t466, A4, H⟩ := H
 by_cases c5 : t466 = true
 ·subst c5
  rw [if_pos rfl] at H
  replace H := bS H
  obtain ⟨t467, A6, H⟩ := H
  obtain rfl := Option.some.inj H
  go_enter Tryd.func3, Tryd.ntmps3
  go_wp2_with (first | ((with_reducible refine gate_dst (N := 3) rfl ?_); refine box_event rfl (N := 3) rfl (cs := #[.bool b0, .int .u64 b1, .int .u64 b2, .bool b3, .int .u64 b4, .int .u64 b5]) (t := 26) kG ?_; intro gb465 hg w7 hbox hb; have BK465 := As (hbox); have GW465 := As ((by rw [hg]; exact (below_size (kB HB.out)) : w.heap.size ≤ gb465)); have GE465 := As ((by rw [hg]; exact (below_size (kB HB.out)) : w.heap.size ≤ gb465)); replace HB := As (below_step (kB HB.out) hb); clear hb hbox hg) | ((with_reducible refine gate_callee (f := 10) rfl ?_); refine goesL_ (some 16) rfl rfl Tryd.func10 (by kernel_rfl) rfl #[.string a2] rfl kA ?_; (with_reducible refine (intrusionlaw17_long.calls a2 true _ A4.out).mono ?_); rintro e w' ⟨rfl, ⟨nd, rfl⟩⟩; refine ⟨_, rfl, ?_⟩) | ((with_reducible refine gate_callee (f := 11) rfl ?_); refine goesL_ (some 17) rfl rfl Tryd.func11 (by kernel_rfl) rfl #[] rfl kA ?_; (with_reducible refine (intrusionlaw17_awake.calls k  t467 _ ?side1 A6.out).mono ?_); (case side1 => exact laid_below HLD.out (kB1 HB.out GE465.out)); rintro e w8 ⟨rfl, hb⟩; refine ⟨_, rfl, ?_⟩; replace BK465 := As (blk_below (kb BK465.out) hb); replace HB := As (below_step (kB1 HB.out GE465.out) hb); (try clear hb)))
  go_ret
  exact ⟨kE, by exact kB1 HB.out GE465.out⟩
 replace c5 := Bool.eq_false_iff.mpr c5
 subst c5
 rw [if_neg (show ¬ (false = true) by decide)] at H
 replace H := Option.bind_eq_some_iff.mp H
 obtain ⟨⟨t468, t469, t470, t471, t472, t473, t474, t475, t476, t477⟩, A90, H⟩ := H
 replace H : ((intrusionref17_WrapGre.f k b0 b1 b2 b3 b4 b5 (Int.tmod a1 8) a2 ((a1) % 4294967296) ((Int.tmod a1 2) == 0)).bind fun bt479 => ((tunnel_Packet.f k bt479.1 bt479.2.1 bt479.2.2.1 bt479.2.2.2.1 bt479.2.2.2.2.1 bt479.2.2.2.2.2.1 bt479.2.2.2.2.2.2.1 bt479.2.2.2.2.2.2.2.1 bt479.2.2.2.2.2.2.2.2.1 a1).bind fun bt490 => ((intrusionref17_Packet.f k bt479.1 bt479.2.1 bt479.2.2.1 bt479.2.2.2.1 bt479.2.2.2.2.1 bt479.2.2.2.2.2.1 bt479.2.2.2.2.2.2.1 bt479.2.2.2.2.2.2.2.1 bt479.2.2.2.2.2.2.2.2.1 a1).bind fun bt492 => (if ((t468 == bt479.1 && (t469 == bt479.2.1 && (t470 == bt479.2.2.1))) && ((t471 == bt479.2.2.2.1 && (t472 == bt479.2.2.2.2.1 && (t473 == bt479.2.2.2.2.2.1))) && (t474 == bt479.2.2.2.2.2.2.1 && (t475 == bt479.2.2.2.2.2.2.2.1 && (t476.toList == bt479.2.2.2.2.2.2.2.2.1.toList))))) = true then (if t477 = bt479.2.2.2.2.2.2.2.2.2 then (if bt490.1.toList = bt492.1.toList then (if bt490.2 = bt492.2 then ((intrusionlaw17_awake.f k).bind fun t494 => (some t494)) else (none)) else (none)) else (none)) else (none))))) = some r := H
 have A9 := As A90
 clear A90
 replace H := Option.bind_eq_some_iff.mp H
 obtain ⟨⟨t479, t480, t481, t482, t483, t484, t485, t486, t487, t488⟩, A100, H⟩ := H
 replace H : ((tunnel_Packet.f k t479 t480 t481 t482 t483 t484 t485 t486 t487 a1).bind fun bt490 => ((intrusionref17_Packet.f k t479 t480 t481 t482 t483 t484 t485 t486 t487 a1).bind fun bt492 => (if ((t468 == t479 && (t469 == t480 && (t470 == t481))) && ((t471 == t482 && (t472 == t483 && (t473 == t484))) && (t474 == t485 && (t475 == t486 && (t476.toList == t487.toList))))) = true then (if t477 = t488 then (if bt490.1.toList = bt492.1.toList then (if bt490.2 = bt492.2 then ((intrusionlaw17_awake.f k).bind fun t494 => (some t494)) else (none)) else (none)) else (none)) else (none)))) = some r := H
 have A10 := As A100
 clear A100
 replace H := Option.bind_eq_some_iff.mp H
 obtain ⟨⟨t490, t491⟩, A110, H⟩ := H
 replace H : ((intrusionref17_Packet.f k t479 t480 t481 t482 t483 t484 t485 t486 t487 a1).bind fun bt492 => (if ((t468 == t479 && (t469 == t480 && (t470 == t481))) && ((t471 == t482 && (t472 == t483 && (t473 == t484))) && (t474 == t485 && (t475 == t486 && (t476.toList == t487.toList))))) = true then (if t477 = t488 then (if t490.toList = bt492.1.toList then (if t491 = bt492.2 then ((intrusionlaw17_awake.f k).bind fun t494 => (some t494)) else (none)) else (none)) else (none)) else (none))) = some r := H
 have A11 := As A110
 clear A110
 replace H := Option.bind_eq_some_iff.mp H
 obtain ⟨⟨t492, t493⟩, A120, H⟩ := H
 replace H : (if ((t468 == t479 && (t469 == t480 && (t470 == t481))) && ((t471 == t482 && (t472 == t483 && (t473 == t484))) && (t474 == t485 && (t475 == t486 && (t476.toList == t487.toList))))) = true then (if t477 = t488 then (if t490.toList = t492.toList then (if t491 = t493 then ((intrusionlaw17_awake.f k).bind fun t494 => (some t494)) else (none)) else (none)) else (none)) else (none)) = some r := H
 have A12 := As A120
 clear A120
 replace H := iS H
 obtain ⟨c13, H⟩ := H
 have c13b0 : ((t468 == t479 && (t469 == t480 && (t470 == t481))) && ((t471 == t482 && (t472 == t483 && (t473 == t484))) && (t474 == t485 && (t475 == t486 && (t476.toList == t487.toList))))) = true := c13
 clear c13
 replace H := iS H
 obtain ⟨c14, H⟩ := H
 have c14b0 : (t477 == t488) = true := beq_iff_eq.mpr c14
 have c14b1 : (t477 != t488) = false := bne_eq_false_iff_eq.mpr c14
 clear c14
 replace H := iS H
 obtain ⟨c15, H⟩ := H
 have c15b0 : (t490.toList == t492.toList) = true := beq_iff_eq.mpr c15
 have c15b1 : (t490.toList != t492.toList) = false := bne_eq_false_iff_eq.mpr c15
 clear c15
 replace H := iS H
 obtain ⟨c16, H⟩ := H
 have c16b0 : (t491 == t493) = true := beq_iff_eq.mpr c16
 have c16b1 : (t491 != t493) = false := bne_eq_false_iff_eq.mpr c16
 clear c16
 replace H := bS H
 obtain ⟨t494, A17, H⟩ := H
 obtain rfl := Option.some.inj H
 go_enter Tryd.func3, Tryd.ntmps3
 go_wp2_with (first | ((with_reducible refine gate_dst (N := 3) rfl ?_); refine box_event rfl (N := 3) rfl (cs := #[.bool b0, .int .u64 b1, .int .u64 b2, .bool b3, .int .u64 b4, .int .u64 b5]) (t := 26) kG ?_; intro gb465 hg w18 hbox hb; have BK465 := As (hbox); have GW465 := As ((by rw [hg]; exact (below_size (kB HB.out)) : w.heap.size ≤ gb465)); have GE465 := As ((by rw [hg]; exact (below_size (kB HB.out)) : w.heap.size ≤ gb465)); replace HB := As (below_step (kB HB.out) hb); clear hb hbox hg) | ((with_reducible refine gate_callee (f := 10) rfl ?_); refine goesL_ (some 16) rfl rfl Tryd.func10 (by kernel_rfl) rfl #[.string a2] rfl kA ?_; (with_reducible refine (intrusionlaw17_long.calls a2 false _ A4.out).mono ?_); rintro e w' ⟨rfl, ⟨nd, rfl⟩⟩; refine ⟨_, rfl, ?_⟩; (try (rw [drewN_self w18]; generalize hq_ : World.drewN w18 _ = w18; have n0_ : Aside0 (w18.heap[gb465]? = some (.cells #[.bool b0, .int .u64 b1, .int .u64 b2, .bool b3, .int .u64 b4, .int .u64 b5] 26 (0, 0))) := ⟨by rw [← hq_]; exact (kb BK465.out)⟩; have n1_ : Aside0 (Below w.heap.size w w18) := ⟨by rw [← hq_]; exact (kB1 HB.out GE465.out)⟩; clear BK465 HB hq_; have BK465 := n0_; have HB := n1_; clear n0_ n1_)); have hcz19_0 := cells_6 BK465.out; have hfz19_0 := fun j_ => blk_frozen BK465.out j_) | ((with_reducible refine gate_callee (f := 12) rfl ?_); refine goesL_ (some 31) rfl rfl Tryd.func12 (by kernel_rfl) rfl #[.agg #[.bool b0, .int .u64 b1, .int .u64 b2], .agg #[.bool b3, .int .u64 b4, .int .u64 b5], .int .i64 (Int.tmod a1 8), .string a2, .int .u32 ((a1) % 4294967296), .bool ((Int.tmod a1 2) == 0)] rfl kA ?_; (with_reducible refine (tunnel_WrapGre.calls k b0 b1 b2 b3 b4 b5 (Int.tmod a1 8) a2 ((a1) % 4294967296) ((Int.tmod a1 2) == 0) t468 t469 t470 t471 t472 t473 t474 t475 t476 t477 _ A9.out).mono ?_); rintro e w20 ⟨rfl, hb⟩; refine ⟨_, rfl, ?_⟩; replace BK465 := As (blk_below (kb BK465.out) hb); replace HB := As (below_step (kB1 HB.out GE465.out) hb); (try clear hb)) | ((with_reducible refine gate_dst (N := 7) rfl ?_); refine box_event rfl (N := 7) rfl (cs := #[.bool false, .int .u64 0, .int .u64 0, .bool false, .int .u64 0, .int .u64 0, .int .i64 0, .int .i64 0, .string (⟨#[]⟩ : ByteArray)]) (t := 30) kG ?_; intro gb478 hg w21 hbox hb; have BK478 := As (hbox); have GW478 := As ((by rw [hg]; exact (below_size (kB1 HB.out GE465.out)) : w.heap.size ≤ gb478)); have GE478 := As ((by rw [hg]; exact (below_size (kB1 HB.out GE465.out)) : w.heap.size ≤ gb478)); replace HB := As (below_step (kB1 HB.out GE465.out) hb); have NB465_478 := As ((by rw [hg]; exact Nat.ne_of_lt (blk_lt (kb BK465.out)) : gb465 ≠ gb478)); have NB478_465 := As ((by rw [hg]; exact Nat.ne_of_gt (blk_lt (kb BK465.out)) : gb478 ≠ gb465)); replace BK465 := As (blk_below (kb BK465.out) hb); clear hb hbox hg) | ((with_reducible refine gate_store (t := 30) (p := 7) rfl ?_); refine store_rowev_9 gb478 (.bool t468) (.int .u64 t469) (.int .u64 t470) (.bool t471) (.int .u64 t472) (.int .u64 t473) (.int .i64 t474) (.int .i64 t475) (.string t476) rfl (t := 30) (p := 7) (v := _) rfl rfl rfl rfl (t' := 30) (kb BK478.out) (by rfl) (by kernel_rfl) (by rfl) ?_; have hnb22 := NB465_478.out; have hnc22 := NB478_465.out; have hcz23_0 := cells_6 BK465.out; have hfz23_0 := fun j_ => blk_frozen BK465.out j_) | ((with_reducible refine gate_callee (f := 13) rfl ?_); refine goesL_ (some 47) rfl rfl Tryd.func13 (by kernel_rfl) rfl #[.agg #[.bool b0, .int .u64 b1, .int .u64 b2], .agg #[.bool b3, .int .u64 b4, .int .u64 b5], .int .i64 (Int.tmod a1 8), .string a2, .int .u32 ((a1) % 4294967296), .bool ((Int.tmod a1 2) == 0)] rfl kA ?_; (with_reducible refine (intrusionref17_WrapGre.calls k b0 b1 b2 b3 b4 b5 (Int.tmod a1 8) a2 ((a1) % 4294967296) ((Int.tmod a1 2) == 0) t479 t480 t481 t482 t483 t484 t485 t486 t487 t488 _ A10.out).mono ?_); rintro e w24 ⟨rfl, hb⟩; refine ⟨_, rfl, ?_⟩; replace BK465 := As (blk_below (g := gb465) (o := .cells #[.bool b0, .int .u64 b1, .int .u64 b2, .bool b3, .int .u64 b4, .int .u64 b5] 26 (0, 0)) (by refine kb ?_; (iterate 9 (refine blk_far ?_ NB465_478.out _; refine kb ?_)); exact BK465.out) hb); replace BK478 := As (blk_below (g := gb478) (o := .cells #[.bool t468, .int .u64 t469, .int .u64 t470, .bool t471, .int .u64 t472, .int .u64 t473, .int .i64 t474, .int .i64 t475, .string t476] 30 (0, 0)) (by refine kb ?_; exact blk_all_9 (kb BK478.out) (by rfl)) hb); replace HB := As (below_step (kB2 HB.out GE465.out GE478.out) hb); (try clear hb)) | ((with_reducible refine gate_dst (N := 9) rfl ?_); refine box_event rfl (N := 9) rfl (cs := #[.bool false, .int .u64 0, .int .u64 0, .bool false, .int .u64 0, .int .u64 0, .int .i64 0, .int .i64 0, .string (⟨#[]⟩ : ByteArray)]) (t := 30) kG ?_; intro gb489 hg w25 hbox hb; have BK489 := As (hbox); have GW489 := As ((by rw [hg]; exact (below_size (kB2 HB.out GE465.out GE478.out)) : w.heap.size ≤ gb489)); have GE489 := As ((by rw [hg]; exact (below_size (kB2 HB.out GE465.out GE478.out)) : w.heap.size ≤ gb489)); replace HB := As (below_step (kB2 HB.out GE465.out GE478.out) hb); have NB465_489 := As ((by rw [hg]; exact Nat.ne_of_lt (blk_lt (kb BK465.out)) : gb465 ≠ gb489)); have NB489_465 := As ((by rw [hg]; exact Nat.ne_of_gt (blk_lt (kb BK465.out)) : gb489 ≠ gb465)); replace BK465 := As (blk_below (kb BK465.out) hb); have NB478_489 := As ((by rw [hg]; exact Nat.ne_of_lt (blk_lt (kb BK478.out)) : gb478 ≠ gb489)); have NB489_478 := As ((by rw [hg]; exact Nat.ne_of_gt (blk_lt (kb BK478.out)) : gb489 ≠ gb478)); replace BK478 := As (blk_below (kb BK478.out) hb); clear hb hbox hg) | ((with_reducible refine gate_store (t := 30) (p := 9) rfl ?_); refine store_rowev_9 gb489 (.bool t479) (.int .u64 t480) (.int .u64 t481) (.bool t482) (.int .u64 t483) (.int .u64 t484) (.int .i64 t485) (.int .i64 t486) (.string t487) rfl (t := 30) (p := 9) (v := _) rfl rfl rfl rfl (t' := 30) (kb BK489.out) (by rfl) (by kernel_rfl) (by rfl) ?_) | ((with_reducible refine gate_dst (N := 51) rfl ?_); (try (refine gate_guard (by rfl) ?_; dsimp only)); refine wpList_load_row ?hgd 30 _ rfl gb489 rfl 30 #[.bool t479, .int .u64 t480, .int .u64 t481, .bool t482, .int .u64 t483, .int .u64 t484, .int .i64 t485, .int .i64 t486, .string t487] (0, 0) _ (by refine kb ?_; exact blk_all_9 (kb BK489.out) (by rfl)) Tryd.underlying30 rfl (by kernel_rfl) ?_; (case hgd => rfl)) | ((with_reducible refine gate_callee (f := 14) rfl ?_); refine goesL_ (some 53) rfl rfl Tryd.func14 (by kernel_rfl) rfl #[.agg #[.bool t479, .int .u64 t480, .int .u64 t481, .bool t482, .int .u64 t483, .int .u64 t484, .int .i64 t485, .int .i64 t486, .string t487], .int .i64 a1] rfl kA ?_; (with_reducible refine (tunnel_Packet.calls k t479 t480 t481 t482 t483 t484 t485 t486 t487 a1 t490 t491 _ A11.out).mono ?_); rintro e w26 ⟨rfl, hb⟩; refine ⟨_, rfl, ?_⟩; replace BK465 := As (blk_below (g := gb465) (o := .cells #[.bool b0, .int .u64 b1, .int .u64 b2, .bool b3, .int .u64 b4, .int .u64 b5] 26 (0, 0)) (by refine kb ?_; (iterate 9 (refine blk_far ?_ NB465_489.out _; refine kb ?_)); exact BK465.out) hb); replace BK478 := As (blk_below (g := gb478) (o := .cells #[.bool t468, .int .u64 t469, .int .u64 t470, .bool t471, .int .u64 t472, .int .u64 t473, .int .i64 t474, .int .i64 t475, .string t476] 30 (0, 0)) (by refine kb ?_; (iterate 9 (refine blk_far ?_ NB478_489.out _; refine kb ?_)); exact BK478.out) hb); replace BK489 := As (blk_below (g := gb489) (o := .cells #[.bool t479, .int .u64 t480, .int .u64 t481, .bool t482, .int .u64 t483, .int .u64 t484, .int .i64 t485, .int .i64 t486, .string t487] 30 (0, 0)) (by refine kb ?_; exact blk_all_9 (kb BK489.out) (by rfl)) hb); replace HB := As (below_step (kB3 HB.out GE465.out GE478.out GE489.out) hb); (try clear hb)) | ((with_reducible refine gate_dst (N := 57) rfl ?_); (try (refine gate_guard (by rfl) ?_; dsimp only)); refine wpList_load_row ?hgd 30 _ rfl gb489 rfl 30 #[.bool t479, .int .u64 t480, .int .u64 t481, .bool t482, .int .u64 t483, .int .u64 t484, .int .i64 t485, .int .i64 t486, .string t487] (0, 0) _ (kb BK489.out) Tryd.underlying30 rfl (by kernel_rfl) ?_; (case hgd => rfl)) | ((with_reducible refine gate_callee (f := 15) rfl ?_); refine goesL_ (some 59) rfl rfl Tryd.func15 (by kernel_rfl) rfl #[.agg #[.bool t479, .int .u64 t480, .int .u64 t481, .bool t482, .int .u64 t483, .int .u64 t484, .int .i64 t485, .int .i64 t486, .string t487], .int .i64 a1] rfl kA ?_; (with_reducible refine (intrusionref17_Packet.calls k t479 t480 t481 t482 t483 t484 t485 t486 t487 a1 t492 t493 _ A12.out).mono ?_); rintro e w27 ⟨rfl, hb⟩; refine ⟨_, rfl, ?_⟩; replace BK465 := As (blk_below (kb BK465.out) hb); replace BK478 := As (blk_below (kb BK478.out) hb); replace BK489 := As (blk_below (kb BK489.out) hb); replace HB := As (below_step (kB3 HB.out GE465.out GE478.out GE489.out) hb); (try clear hb)) | ((with_reducible refine gate_dst (N := 62) rfl ?_); (try (refine gate_guard (by rfl) ?_; dsimp only)); refine wpList_load_row ?hgd 30 _ rfl gb478 rfl 30 #[.bool t468, .int .u64 t469, .int .u64 t470, .bool t471, .int .u64 t472, .int .u64 t473, .int .i64 t474, .int .i64 t475, .string t476] (0, 0) _ (kb BK478.out) Tryd.underlying30 rfl (by kernel_rfl) ?_; (case hgd => rfl)) | ((with_reducible refine gate_dst (N := 63) rfl ?_); (try (refine gate_guard (by rfl) ?_; dsimp only)); refine wpList_load_row ?hgd 30 _ rfl gb489 rfl 30 #[.bool t479, .int .u64 t480, .int .u64 t481, .bool t482, .int .u64 t483, .int .u64 t484, .int .i64 t485, .int .i64 t486, .string t487] (0, 0) _ (kb BK489.out) Tryd.underlying30 rfl (by kernel_rfl) ?_; (case hgd => rfl)) | (go_at_call 11; (with_reducible refine (intrusionlaw17_awake.calls k  t494 _ ?side1 A17.out).mono ?_); (case side1 => exact laid_below HLD.out (kB3 HB.out GE465.out GE478.out GE489.out)); rintro e w28 ⟨rfl, hb⟩; replace BK465 := As (blk_below (kb BK465.out) hb); replace BK478 := As (blk_below (kb BK478.out) hb); replace BK489 := As (blk_below (kb BK489.out) hb); replace HB := As (below_step (kB3 HB.out GE465.out GE478.out GE489.out) hb); (try clear hb)))
 go_ret
 exact ⟨kE, by exact kB3 HB.out GE465.out GE478.out GE489.out⟩

end Go.Proofs.YtocobalkikkhlaaDoor.X
-- short
-- short2
