/- Functions and their walks, printed by xprint.py. -/
import Derived.Test.YtocobalkikkhlaaDoorX0
import Derived.Test.YtocobalkikkhlaaDoorX12
import Derived.Test.YtocobalkikkhlaaDoorX15
namespace Go.Proofs.YtocobalkikkhlaaDoor.X
open Go.RowKit Go.Proofs.YtocobalkikkhlaaDoorW.PrintWords Go.Proofs.YtocobalkikkhlaaDoorW.PrintLast Go.Proofs.YtocobalkikkhlaaDoorW.PrintMore
attribute [local go_sem] max2_int min2_int max_two min_two max_three min_three max_four min_four   -- for this text's walks alone
set_option linter.unusedVariables false
set_option linter.unusedSimpArgs false

/-! ### tunnel_Packet: function 14 -/
def tunnel_Packet.f (k : Nat) (b0 : Bool) (b1 : Int) (b2 : Int) (b3 : Bool) (b4 : Int) (b5 : Int) (b6 : Int) (b7 : Int) (b8 : ByteArray) (a1 : Int) : Option (ByteArray × Int) := if b0 = true then ((ipv6_Encode.f k 0 0 b7 b6 b0 b1 b2 b3 b4 b5 ([] : List (S91)) false 0 0 false b8).bind fun bt389 => (some (bt389.1, bt389.2))) else ((ipv4_Encode.f k 0 a1 b7 b6 false false 0 b0 b1 b2 b3 b4 b5 ([] : List (S125)) b8).bind fun bt391 => (some (bt391.1, bt391.2)))
theorem tunnel_Packet.mono : ∀ a0 a1 a2 a3 a4 a5 a6 a7 a8 a9 k, LeO (tunnel_Packet.f k a0 a1 a2 a3 a4 a5 a6 a7 a8 a9) (tunnel_Packet.f (k + 1) a0 a1 a2 a3 a4 a5 a6 a7 a8 a9) := by
 intro a0 a1 a2 a3 a4 a5 a6 a7 a8 a9 k
 unfold tunnel_Packet.f
 repeat' first | with_reducible first | apply ipv4_Encode.mono | apply ipv6_Encode.mono | apply LeO.refl | apply LeO.none | refine LeO.ite ?_ ?_ | refine LeO.bind ?_ (fun _ => ?_)
set_option maxHeartbeats 8000000 in
set_option maxRecDepth 100000 in
theorem tunnel_Packet.calls (k : Nat) (b0 : Bool) (b1 : Int) (b2 : Int) (b3 : Bool) (b4 : Int) (b5 : Int) (b6 : Int) (b7 : Int) (b8 : ByteArray) (a1 : Int) (r1 : ByteArray) (r2 : Int) (w : World) (h : tunnel_Packet.f k b0 b1 b2 b3 b4 b5 b6 b7 b8 a1 = some (r1, r2)) :
  Calls Tryd.prog 14 #[.agg #[.bool b0, .int .u64 b1, .int .u64 b2, .bool b3, .int .u64 b4, .int .u64 b5, .int .i64 b6, .int .i64 b7, .string b8], .int .i64 a1] w fun e w' => e = .returned (.tuple #[.string r1, .int .i64 r2]) ∧ Below w.heap.size w w' := by
 have hu30 := Tryd.underlying30
 have hu24 := Tryd.underlying24
 have hu60 := Tryd.underlying60
 have hu64 := Tryd.underlying64
 have HB := As (Below.refl w.heap.size w)
 have H : (if b0 = true then ((ipv6_Encode.f k 0 0 b7 b6 b0 b1 b2 b3 b4 b5 ([] : List (S91)) false 0 0 false b8).bind fun bt389 => (some (bt389.1, bt389.2))) else ((ipv4_Encode.f k 0 a1 b7 b6 false false 0 b0 b1 b2 b3 b4 b5 ([] : List (S125)) b8).bind fun bt391 => (some (bt391.1, bt391.2)))) = some (r1, r2) := h
 clear h
 by_cases c3 : b0 = true
 ·subst c3
  rw [if_pos rfl] at H
  replace H := Option.bind_eq_some_iff.mp H
  obtain ⟨⟨t389, t390⟩, A40, H⟩ := H
  replace H : (some (t389, t390)) = some (r1, r2) := H
  have A4 := As A40
  clear A40
  simp only [Option.some.injEq, Prod.mk.injEq] at H
  obtain ⟨rfl, rfl⟩ := H
  go_enter Tryd.func14, Tryd.ntmps14
  go_wp2_with (first | ((with_reducible refine gate_dst (N := 2) rfl ?_); refine box_event rfl (N := 2) rfl (cs := #[.bool true, .int .u64 b1, .int .u64 b2, .bool b3, .int .u64 b4, .int .u64 b5, .int .i64 b6, .int .i64 b7, .string b8]) (t := 30) kG ?_; intro gb388 hg w5 hbox hb; have BK388 := As (hbox); have GW388 := As ((by rw [hg]; exact (below_size (kB HB.out)) : w.heap.size ≤ gb388)); have GE388 := As ((by rw [hg]; exact (below_size (kB HB.out)) : w.heap.size ≤ gb388)); replace HB := As (below_step (kB HB.out) hb); clear hb hbox hg; have hcz6_0 := cells_9 BK388.out; have hfz6_0 := fun j_ => blk_frozen BK388.out j_) | ((with_reducible refine gate_callee (f := 35) rfl ?_); refine goesL_ (some 20) rfl rfl Tryd.func35 (by kernel_rfl) rfl #[.agg #[.int .i64 0, .int .i64 0, .int .i64 b7, .int .i64 b6, .bool true, .int .u64 b1, .int .u64 b2, .bool b3, .int .u64 b4, .int .u64 b5, .slice none 0 0, .bool false, .int .i64 0, .int .i64 0, .bool false, .string b8]] rfl kA ?_; (refine (ipv6_Encode.calls k 0 0 b7 b6 true b1 b2 b3 b4 b5 _ _ ([] : List (S91)) false 0 0 false b8 t389 t390 _ ?side1 ?side2 A4.out).mono ?_); (case side1 => exact Kd.C_nil _ _); (case side2 => exact Nat.le_refl _); rintro e w7 ⟨rfl, hb⟩; refine ⟨_, rfl, ?_⟩; replace BK388 := As (blk_below (kb BK388.out) hb); replace HB := As (below_step (kB1 HB.out GE388.out) hb); (try clear hb)))
  go_ret2
  exact ⟨kE, by exact kB1 HB.out GE388.out⟩
 replace c3 := Bool.eq_false_iff.mpr c3
 subst c3
 rw [if_neg (show ¬ (false = true) by decide)] at H
 replace H := Option.bind_eq_some_iff.mp H
 obtain ⟨⟨t391, t392⟩, A80, H⟩ := H
 replace H : (some (t391, t392)) = some (r1, r2) := H
 have A8 := As A80
 clear A80
 simp only [Option.some.injEq, Prod.mk.injEq] at H
 obtain ⟨rfl, rfl⟩ := H
 go_enter Tryd.func14, Tryd.ntmps14
 go_wp2_with (first | ((with_reducible refine gate_dst (N := 2) rfl ?_); refine box_event rfl (N := 2) rfl (cs := #[.bool false, .int .u64 b1, .int .u64 b2, .bool b3, .int .u64 b4, .int .u64 b5, .int .i64 b6, .int .i64 b7, .string b8]) (t := 30) kG ?_; intro gb388 hg w9 hbox hb; have BK388 := As (hbox); have GW388 := As ((by rw [hg]; exact (below_size (kB HB.out)) : w.heap.size ≤ gb388)); have GE388 := As ((by rw [hg]; exact (below_size (kB HB.out)) : w.heap.size ≤ gb388)); replace HB := As (below_step (kB HB.out) hb); clear hb hbox hg; have hcz10_0 := cells_9 BK388.out; have hfz10_0 := fun j_ => blk_frozen BK388.out j_) | ((with_reducible refine gate_callee (f := 36) rfl ?_); refine goesL_ (some 35) rfl rfl Tryd.func36 (by kernel_rfl) rfl #[.agg #[.int .i64 0, .int .i64 a1, .int .i64 b7, .int .i64 b6, .bool false, .bool false, .int .i64 0, .bool false, .int .u64 b1, .int .u64 b2, .bool b3, .int .u64 b4, .int .u64 b5, .slice none 0 0, .string b8]] rfl kA ?_; (refine (ipv4_Encode.calls k 0 a1 b7 b6 false false 0 false b1 b2 b3 b4 b5 _ _ ([] : List (S125)) b8 t391 t392 _ ?side1 ?side2 A8.out).mono ?_); (case side1 => exact Kd.C_nil _ _); (case side2 => exact Nat.le_refl _); rintro e w11 ⟨rfl, hb⟩; refine ⟨_, rfl, ?_⟩; replace BK388 := As (blk_below (kb BK388.out) hb); replace HB := As (below_step (kB1 HB.out GE388.out) hb); (try clear hb)))
 go_ret2
 exact ⟨kE, by exact kB1 HB.out GE388.out⟩

/-! ### intrusionref12_extension: function 65 -/
def intrusionref12_extension.f (a0 : Int) : Option (Bool) := if a0 = 0 then (some true) else (if a0 = 43 then (some true) else (some (a0 == 60)))
set_option maxHeartbeats 8000000 in
set_option maxRecDepth 100000 in
theorem intrusionref12_extension.calls (a0 : Int) (r : Bool) (w : World) (h : intrusionref12_extension.f a0 = some r) :
  Calls Tryd.prog 65 #[.int .i64 a0] w fun e w' => e = .returned (.bool r) ∧ Drawn0 w w' := by
 have H : (if a0 = 0 then (some true) else (if a0 = 43 then (some true) else (some (a0 == 60)))) = some r := h
 clear h
 by_cases c2 : a0 = 0
 ·rw [if_pos c2] at H
  have c2b0 : (a0 == 0) = true := beq_iff_eq.mpr c2
  have c2b1 : (a0 != 0) = false := bne_eq_false_iff_eq.mpr c2
  clear c2
  obtain rfl := Option.some.inj H
  go_enter Tryd.func65, Tryd.ntmps65
  go_wp2
  go_ret
  exact ⟨by first | rfl | (simp; done) | (simp [*]; done), by repeat (first | exact Drawn0.refl _ | apply Drawn0.step)⟩
 rw [if_neg c2] at H
 have c2b0 : (a0 == 0) = false := beq_eq_false_iff_ne.mpr c2
 have c2b1 : (a0 != 0) = true := bne_iff_ne.mpr c2
 by_cases c3 : a0 = 43
 ·rw [if_pos c3] at H
  have c3b0 : (a0 == 43) = true := beq_iff_eq.mpr c3
  have c3b1 : (a0 != 43) = false := bne_eq_false_iff_eq.mpr c3
  clear c3
  obtain rfl := Option.some.inj H
  go_enter Tryd.func65, Tryd.ntmps65
  go_wp2
  go_ret
  exact ⟨by first | rfl | (simp; done) | (simp [*]; done), by repeat (first | exact Drawn0.refl _ | apply Drawn0.step)⟩
 rw [if_neg c3] at H
 have c3b0 : (a0 == 43) = false := beq_eq_false_iff_ne.mpr c3
 have c3b1 : (a0 != 43) = true := bne_iff_ne.mpr c3
 obtain rfl := Option.some.inj H
 go_enter Tryd.func65, Tryd.ntmps65
 go_wp2
 go_ret
 exact ⟨by first | rfl | (simp; done) | (simp [*]; done), by repeat (first | exact Drawn0.refl _ | apply Drawn0.step)⟩

/-! ### intrusionref12_ranges: function 64 -/
def intrusionref12_ranges.j0 : Nat → Bool → Int → Int → Int → Int → Bool → Int → Int → Bool → Int → Int → List (S91) → Bool → Int → Int → Bool → ByteArray → Option (Bool)
 | 0, _, _, _, _, _, _, _, _, _, _, _, _, _, _, _, _, _ => none
 | k + 1, x62, x394000, x394001, x394002, x394003, x394004, x394005, x394006, x394007, x394008, x394009, x394010, x394011, x394012, x394013, x394014, x394015 => if x62 = true then (some false) else (if x394011 = true then (if x394012 ≥ 0 then (if x394012 < 4294967296 then (if x394013 ≥ 0 then (if x394013 ≤ 65528 then (some ((Int.tmod x394013 8) == 0)) else (some false)) else (some false)) else (some false)) else (some false)) else (if x394012 = 0 then (if x394013 = 0 then (some (!x394014)) else (some false)) else (some false)))
def intrusionref12_ranges.f (k : Nat) (b0 : Int) (b1 : Int) (b2 : Int) (b3 : Int) (b4 : Bool) (b5 : Int) (b6 : Int) (b7 : Bool) (b8 : Int) (b9 : Int) (l0_10 : List (S91)) (b11 : Bool) (b12 : Int) (b13 : Int) (b14 : Bool) (b15 : ByteArray) : Option (Bool) := if b0 < 0 then (intrusionref12_ranges.j0 k true b0 b1 b2 b3 b4 b5 b6 b7 b8 b9 l0_10 b11 b12 b13 b14 b15) else (if b0 > 255 then (intrusionref12_ranges.j0 k true b0 b1 b2 b3 b4 b5 b6 b7 b8 b9 l0_10 b11 b12 b13 b14 b15) else (if b2 < 0 then (intrusionref12_ranges.j0 k true b0 b1 b2 b3 b4 b5 b6 b7 b8 b9 l0_10 b11 b12 b13 b14 b15) else (if b2 > 255 then (intrusionref12_ranges.j0 k true b0 b1 b2 b3 b4 b5 b6 b7 b8 b9 l0_10 b11 b12 b13 b14 b15) else (if b1 < 0 then (intrusionref12_ranges.j0 k true b0 b1 b2 b3 b4 b5 b6 b7 b8 b9 l0_10 b11 b12 b13 b14 b15) else (if b1 > 1048575 then (intrusionref12_ranges.j0 k true b0 b1 b2 b3 b4 b5 b6 b7 b8 b9 l0_10 b11 b12 b13 b14 b15) else (if b3 < 0 then (intrusionref12_ranges.j0 k true b0 b1 b2 b3 b4 b5 b6 b7 b8 b9 l0_10 b11 b12 b13 b14 b15) else (if b3 > 255 then (intrusionref12_ranges.j0 k true b0 b1 b2 b3 b4 b5 b6 b7 b8 b9 l0_10 b11 b12 b13 b14 b15) else ((intrusionref12_extension.f b3).bind fun t394 => (if t394 = true then (intrusionref12_ranges.j0 k true b0 b1 b2 b3 b4 b5 b6 b7 b8 b9 l0_10 b11 b12 b13 b14 b15) else (if b3 = 44 then (intrusionref12_ranges.j0 k true b0 b1 b2 b3 b4 b5 b6 b7 b8 b9 l0_10 b11 b12 b13 b14 b15) else (if b4 = true then (intrusionref12_ranges.j0 k (!b7) b0 b1 b2 b3 b4 b5 b6 b7 b8 b9 l0_10 b11 b12 b13 b14 b15) else (intrusionref12_ranges.j0 k true b0 b1 b2 b3 b4 b5 b6 b7 b8 b9 l0_10 b11 b12 b13 b14 b15))))))))))))
theorem intrusionref12_ranges.mono_l : ∀ k, (∀ y0 y1 y2 y3 y4 y5 y6 y7 y8 y9 y10 y11 y12 y13 y14 y15 y16, LeO (intrusionref12_ranges.j0 k y0 y1 y2 y3 y4 y5 y6 y7 y8 y9 y10 y11 y12 y13 y14 y15 y16) (intrusionref12_ranges.j0 (k + 1) y0 y1 y2 y3 y4 y5 y6 y7 y8 y9 y10 y11 y12 y13 y14 y15 y16))
 | 0 => fun _ _ _ _ _ _ _ _ _ _ _ _ _ _ _ _ _ r h => by simp [intrusionref12_ranges.j0] at h
 | k + 1 => by
  have ih0 := intrusionref12_ranges.mono_l k
  intro y0 y1 y2 y3 y4 y5 y6 y7 y8 y9 y10 y11 y12 y13 y14 y15 y16
  unfold intrusionref12_ranges.j0
  repeat' first | with_reducible first | apply ih0 | apply LeO.refl | apply LeO.none | refine LeO.ite ?_ ?_ | refine LeO.bind ?_ (fun _ => ?_)
theorem intrusionref12_ranges.mono : ∀ a0 a1 a2 a3 a4 a5 a6 a7 a8 a9 a10 a11 a12 a13 a14 a15 k, LeO (intrusionref12_ranges.f k a0 a1 a2 a3 a4 a5 a6 a7 a8 a9 a10 a11 a12 a13 a14 a15) (intrusionref12_ranges.f (k + 1) a0 a1 a2 a3 a4 a5 a6 a7 a8 a9 a10 a11 a12 a13 a14 a15) := by
 intro a0 a1 a2 a3 a4 a5 a6 a7 a8 a9 a10 a11 a12 a13 a14 a15 k
 have ih0 := intrusionref12_ranges.mono_l k
 unfold intrusionref12_ranges.f
 repeat' first | with_reducible first | apply ih0 | apply LeO.refl | apply LeO.none | refine LeO.ite ?_ ?_ | refine LeO.bind ?_ (fun _ => ?_)
set_option maxHeartbeats 8000000 in
set_option maxRecDepth 100000 in
theorem intrusionref12_ranges.calls (k : Nat) (b0 : Int) (b1 : Int) (b2 : Int) (b3 : Int) (b4 : Bool) (b5 : Int) (b6 : Int) (b7 : Bool) (b8 : Int) (b9 : Int) (A0_10 : Option Addr) (c0_10 : Nat) (l0_10 : List (S91)) (b11 : Bool) (b12 : Int) (b13 : Int) (b14 : Bool) (b15 : ByteArray) (r : Bool) (w : World) (hr0_10 : Kd.C k91 w A0_10 l0_10.length l0_10) (hc0_10 : l0_10.length ≤ c0_10) (h : intrusionref12_ranges.f k b0 b1 b2 b3 b4 b5 b6 b7 b8 b9 l0_10 b11 b12 b13 b14 b15 = some r) :
  Calls Tryd.prog 64 #[.agg #[.int .i64 b0, .int .i64 b1, .int .i64 b2, .int .i64 b3, .bool b4, .int .u64 b5, .int .u64 b6, .bool b7, .int .u64 b8, .int .u64 b9, .slice A0_10 l0_10.length c0_10, .bool b11, .int .i64 b12, .int .i64 b13, .bool b14, .string b15]] w fun e w' => e = .returned (.bool r) ∧ Below w.heap.size w w' := by
 have hu60 := Tryd.underlying60
 have HR0_10 := As hr0_10
 have HC0_10 := As hc0_10
 clear hr0_10 hc0_10
 have HB := As (Below.refl w.heap.size w)
 have H : (if b0 < 0 then (intrusionref12_ranges.j0 k true b0 b1 b2 b3 b4 b5 b6 b7 b8 b9 l0_10 b11 b12 b13 b14 b15) else (if b0 > 255 then (intrusionref12_ranges.j0 k true b0 b1 b2 b3 b4 b5 b6 b7 b8 b9 l0_10 b11 b12 b13 b14 b15) else (if b2 < 0 then (intrusionref12_ranges.j0 k true b0 b1 b2 b3 b4 b5 b6 b7 b8 b9 l0_10 b11 b12 b13 b14 b15) else (if b2 > 255 then (intrusionref12_ranges.j0 k true b0 b1 b2 b3 b4 b5 b6 b7 b8 b9 l0_10 b11 b12 b13 b14 b15) else (if b1 < 0 then (intrusionref12_ranges.j0 k true b0 b1 b2 b3 b4 b5 b6 b7 b8 b9 l0_10 b11 b12 b13 b14 b15) else (if b1 > 1048575 then (intrusionref12_ranges.j0 k true b0 b1 b2 b3 b4 b5 b6 b7 b8 b9 l0_10 b11 b12 b13 b14 b15) else (if b3 < 0 then (intrusionref12_ranges.j0 k true b0 b1 b2 b3 b4 b5 b6 b7 b8 b9 l0_10 b11 b12 b13 b14 b15) else (if b3 > 255 then (intrusionref12_ranges.j0 k true b0 b1 b2 b3 b4 b5 b6 b7 b8 b9 l0_10 b11 b12 b13 b14 b15) else ((intrusionref12_extension.f b3).bind fun t394 => (if t394 = true then (intrusionref12_ranges.j0 k true b0 b1 b2 b3 b4 b5 b6 b7 b8 b9 l0_10 b11 b12 b13 b14 b15) else (if b3 = 44 then (intrusionref12_ranges.j0 k true b0 b1 b2 b3 b4 b5 b6 b7 b8 b9 l0_10 b11 b12 b13 b14 b15) else (if b4 = true then (intrusionref12_ranges.j0 k (!b7) b0 b1 b2 b3 b4 b5 b6 b7 b8 b9 l0_10 b11 b12 b13 b14 b15) else (intrusionref12_ranges.j0 k true b0 b1 b2 b3 b4 b5 b6 b7 b8 b9 l0_10 b11 b12 b13 b14 b15))))))))))))) = some r := h
 clear h
 have HC2 := As H
 clear H
 go_enter Tryd.func64, Tryd.ntmps64
 go_upto_region 1 with (first | ((with_reducible refine gate_dst (N := 1) rfl ?_); refine box_event rfl (N := 1) rfl (cs := #[.int .i64 b0, .int .i64 b1, .int .i64 b2, .int .i64 b3, .bool b4, .int .u64 b5, .int .u64 b6, .bool b7, .int .u64 b8, .int .u64 b9, .slice A0_10 l0_10.length c0_10, .bool b11, .int .i64 b12, .int .i64 b13, .bool b14, .string b15]) (t := 60) kG ?_; intro gb393 hg w3 hbox hb; have BK393 := As (hbox); have GW393 := As ((by rw [hg]; exact (below_size (kB HB.out)) : w.heap.size ≤ gb393)); have GE393 := As ((by rw [hg]; exact (below_size (kB HB.out)) : w.heap.size ≤ gb393)); replace HB := As (below_step (kB HB.out) hb); clear hb hbox hg))
 (try simp only [Act.put, sA, sZ, sS])
 go_cut [62] (fun v62 wc => ∃ (kq : Nat) (x62_1 : Bool), v62 = .bool x62_1 ∧ Aside0 (intrusionref12_ranges.j0 kq x62_1 b0 b1 b2 b3 b4 b5 b6 b7 b8 b9 l0_10 b11 b12 b13 b14 b15 = some r) ∧ Aside0 (kq ≤ k) ∧ Aside0 (wc.heap[gb393]? = some (.cells #[.int .i64 b0, .int .i64 b1, .int .i64 b2, .int .i64 b3, .bool b4, .int .u64 b5, .int .u64 b6, .bool b7, .int .u64 b8, .int .u64 b9, (.slice A0_10 l0_10.length c0_10), .bool b11, .int .i64 b12, .int .i64 b13, .bool b14, .string b15] 60 (0, 0))) ∧ Aside0 (Below w.heap.size w wc))
 case first =>
  have H := HC2.out
  clear HC2
  by_cases c4 : b0 < 0
  ·rw [if_pos c4] at H
   have c4b0 : decide (b0 < 0) = true := decide_eq_true c4
   clear c4
   (first | rw [c4b0] | (simp only [i64_w, i32_w]; rw [c4b0]) | skip)
   have H' := As H
   clear H
   have hcz5_0 := cells_16 BK393.out
   have hfz5_0 := fun j_ => blk_frozen BK393.out j_
   go_wp2
   go_meet
   case rel => exact ⟨_, (true), kS, H', ⟨by first | omega | exact Nat.le_refl _⟩, ⟨kb BK393.out⟩, ⟨kB1 HB.out GE393.out⟩⟩
  rw [if_neg c4] at H
  have c4b0 : decide (b0 < 0) = false := decide_eq_false c4
  clear c4
  (first | rw [c4b0] | (simp only [i64_w, i32_w]; rw [c4b0]) | skip)
  by_cases c6 : b0 > 255
  ·rw [if_pos c6] at H
   have c6b0 : decide (255 < b0) = true := decide_eq_true c6
   clear c6
   have H' := As H
   clear H
   have hcz7_0 := cells_16 BK393.out
   have hfz7_0 := fun j_ => blk_frozen BK393.out j_
   go_wp2
   go_meet
   case rel => exact ⟨_, (true), kS, H', ⟨by first | omega | exact Nat.le_refl _⟩, ⟨kb BK393.out⟩, ⟨kB1 HB.out GE393.out⟩⟩
  rw [if_neg c6] at H
  have c6b0 : decide (255 < b0) = false := decide_eq_false c6
  clear c6
  by_cases c8 : b2 < 0
  ·rw [if_pos c8] at H
   have c8b0 : decide (b2 < 0) = true := decide_eq_true c8
   clear c8
   have H' := As H
   clear H
   have hcz9_0 := cells_16 BK393.out
   have hfz9_0 := fun j_ => blk_frozen BK393.out j_
   go_wp2
   go_meet
   case rel => exact ⟨_, (true), kS, H', ⟨by first | omega | exact Nat.le_refl _⟩, ⟨kb BK393.out⟩, ⟨kB1 HB.out GE393.out⟩⟩
  rw [if_neg c8] at H
  have c8b0 : decide (b2 < 0) = false := decide_eq_false c8
  clear c8
  by_cases c10 : b2 > 255
  ·rw [if_pos c10] at H
   have c10b0 : decide (255 < b2) = true := decide_eq_true c10
   clear c10
   have H' := As H
   clear H
   have hcz11_0 := cells_16 BK393.out
   have hfz11_0 := fun j_ => blk_frozen BK393.out j_
   go_wp2
   go_meet
   case rel => exact ⟨_, (true), kS, H', ⟨by first | omega | exact Nat.le_refl _⟩, ⟨kb BK393.out⟩, ⟨kB1 HB.out GE393.out⟩⟩
  rw [if_neg c10] at H
  have c10b0 : decide (255 < b2) = false := decide_eq_false c10
  clear c10
  by_cases c12 : b1 < 0
  ·rw [if_pos c12] at H
   have c12b0 : decide (b1 < 0) = true := decide_eq_true c12
   clear c12
   have H' := As H
   clear H
   have hcz13_0 := cells_16 BK393.out
   have hfz13_0 := fun j_ => blk_frozen BK393.out j_
   go_wp2
   go_meet
   case rel => exact ⟨_, (true), kS, H', ⟨by first | omega | exact Nat.le_refl _⟩, ⟨kb BK393.out⟩, ⟨kB1 HB.out GE393.out⟩⟩
  rw [if_neg c12] at H
  have c12b0 : decide (b1 < 0) = false := decide_eq_false c12
  clear c12
  by_cases c14 : b1 > 1048575
  ·rw [if_pos c14] at H
   have c14b0 : decide (1048575 < b1) = true := decide_eq_true c14
   clear c14
   have H' := As H
   clear H
   have hcz15_0 := cells_16 BK393.out
   have hfz15_0 := fun j_ => blk_frozen BK393.out j_
   go_wp2
   go_meet
   case rel => exact ⟨_, (true), kS, H', ⟨by first | omega | exact Nat.le_refl _⟩, ⟨kb BK393.out⟩, ⟨kB1 HB.out GE393.out⟩⟩
  rw [if_neg c14] at H
  have c14b0 : decide (1048575 < b1) = false := decide_eq_false c14
  clear c14
  by_cases c16 : b3 < 0
  ·rw [if_pos c16] at H
   have c16b0 : decide (b3 < 0) = true := decide_eq_true c16
   clear c16
   have H' := As H
   clear H
   have hcz17_0 := cells_16 BK393.out
   have hfz17_0 := fun j_ => blk_frozen BK393.out j_
   go_wp2
   go_meet
   case rel => exact ⟨_, (true), kS, H', ⟨by first | omega | exact Nat.le_refl _⟩, ⟨kb BK393.out⟩, ⟨kB1 HB.out GE393.out⟩⟩
  rw [if_neg c16] at H
  have c16b0 : decide (b3 < 0) = false := decide_eq_false c16
  clear c16
  by_cases c18 : b3 > 255
  ·rw [if_pos c18] at H
   have c18b0 : decide (255 < b3) = true := decide_eq_true c18
   clear c18
   have H' := As H
   clear H
   have hcz19_0 := cells_16 BK393.out
   have hfz19_0 := fun j_ => blk_frozen BK393.out j_
   go_wp2
   go_meet
   case rel => exact ⟨_, (true), kS, H', ⟨by first | omega | exact Nat.le_refl _⟩, ⟨kb BK393.out⟩, ⟨kB1 HB.out GE393.out⟩⟩
  rw [if_neg c18] at H
  have c18b0 : decide (255 < b3) = false := decide_eq_false c18
  clear c18
  replace H := bS H
  obtain ⟨t394, A20, H⟩ := H
  by_cases c21 : t394 = true
  ·subst c21
   rw [if_pos rfl] at H
   have H' := As H
   clear H
   have hcz22_0 := cells_16 BK393.out
   have hfz22_0 := fun j_ => blk_frozen BK393.out j_
   go_wp2_with (first | (go_at_call 65; (with_reducible refine (intrusionref12_extension.calls b3 true _ A20.out).mono ?_); rintro e w' ⟨rfl, ⟨nd, rfl⟩⟩))
   go_meet
   case rel => exact ⟨_, (true), kS, H', ⟨by first | omega | exact Nat.le_refl _⟩, ⟨kb BK393.out⟩, ⟨kB1 HB.out GE393.out⟩⟩
  replace c21 := Bool.eq_false_iff.mpr c21
  subst c21
  rw [if_neg (show ¬ (false = true) by decide)] at H
  by_cases c23 : b3 = 44
  ·rw [if_pos c23] at H
   have c23b0 : (b3 == 44) = true := beq_iff_eq.mpr c23
   have c23b1 : (b3 != 44) = false := bne_eq_false_iff_eq.mpr c23
   clear c23
   have H' := As H
   clear H
   have hcz24_0 := cells_16 BK393.out
   have hfz24_0 := fun j_ => blk_frozen BK393.out j_
   go_wp2_with (first | (go_at_call 65; (with_reducible refine (intrusionref12_extension.calls b3 false _ A20.out).mono ?_); rintro e w' ⟨rfl, ⟨nd, rfl⟩⟩))
   go_meet
   case rel => exact ⟨_, (true), kS, H', ⟨by first | omega | exact Nat.le_refl _⟩, ⟨kb BK393.out⟩, ⟨kB1 HB.out GE393.out⟩⟩
  rw [if_neg c23] at H
  have c23b0 : (b3 == 44) = false := beq_eq_false_iff_ne.mpr c23
  have c23b1 : (b3 != 44) = true := bne_iff_ne.mpr c23
  by_cases c25 : b4 = true
  ·subst c25
   rw [if_pos rfl] at H
   have H' := As H
   clear H
   have hcz26_0 := cells_16 BK393.out
   have hfz26_0 := fun j_ => blk_frozen BK393.out j_
   go_wp2_with (first | (go_at_call 65; (with_reducible refine (intrusionref12_extension.calls b3 false _ A20.out).mono ?_); rintro e w' ⟨rfl, ⟨nd, rfl⟩⟩))
   go_meet
   case rel => exact ⟨_, (!b7), kS, H', ⟨by first | omega | exact Nat.le_refl _⟩, ⟨kb BK393.out⟩, ⟨kB1 HB.out GE393.out⟩⟩
  replace c25 := Bool.eq_false_iff.mpr c25
  subst c25
  rw [if_neg (show ¬ (false = true) by decide)] at H
  have H' := As H
  clear H
  have hcz27_0 := cells_16 BK393.out
  have hfz27_0 := fun j_ => blk_frozen BK393.out j_
  go_wp2_with (first | (go_at_call 65; (with_reducible refine (intrusionref12_extension.calls b3 false _ A20.out).mono ?_); rintro e w' ⟨rfl, ⟨nd, rfl⟩⟩))
  go_meet
  case rel => exact ⟨_, (true), kS, H', ⟨by first | omega | exact Nat.le_refl _⟩, ⟨kb BK393.out⟩, ⟨kB1 HB.out GE393.out⟩⟩
 clear HC2
 obtain ⟨kq, x62_1, rfl, HA, HJ1, BK393, HB⟩ := hcut
 cases kq with
 | zero => exact absurd HA.out (by simp [intrusionref12_ranges.j0])
 | succ kj1 =>
  have H := HA.out
  clear HA
  simp only [intrusionref12_ranges.j0] at H
  by_cases c28 : x62_1 = true
  ·subst c28
   rw [if_pos rfl] at H
   obtain rfl := Option.some.inj H
   go_wp2
   go_ret
   exact ⟨kE, by exact kB1 HB.out GE393.out⟩
  replace c28 := Bool.eq_false_iff.mpr c28
  subst c28
  rw [if_neg (show ¬ (false = true) by decide)] at H
  by_cases c29 : b11 = true
  ·subst c29
   rw [if_pos rfl] at H
   by_cases c30 : b12 ≥ 0
   ·rw [if_pos c30] at H
    have c30b0 : decide (0 ≤ b12) = true := decide_eq_true c30
    clear c30
    by_cases c31 : b12 < 4294967296
    ·rw [if_pos c31] at H
     have c31b0 : decide (b12 < 4294967296) = true := decide_eq_true c31
     clear c31
     by_cases c32 : b13 ≥ 0
     ·rw [if_pos c32] at H
      have c32b0 : decide (0 ≤ b13) = true := decide_eq_true c32
      clear c32
      by_cases c33 : b13 ≤ 65528
      ·rw [if_pos c33] at H
       have c33b0 : decide (b13 ≤ 65528) = true := decide_eq_true c33
       clear c33
       obtain rfl := Option.some.inj H
       have hcz34_0 := cells_16 BK393.out
       have hfz34_0 := fun j_ => blk_frozen BK393.out j_
       go_wp2
       go_ret
       exact ⟨kE, by exact kB1 HB.out GE393.out⟩
      rw [if_neg c33] at H
      have c33b0 : decide (b13 ≤ 65528) = false := decide_eq_false c33
      clear c33
      obtain rfl := Option.some.inj H
      have hcz35_0 := cells_16 BK393.out
      have hfz35_0 := fun j_ => blk_frozen BK393.out j_
      go_wp2
      go_ret
      exact ⟨kE, by exact kB1 HB.out GE393.out⟩
     rw [if_neg c32] at H
     have c32b0 : decide (0 ≤ b13) = false := decide_eq_false c32
     clear c32
     obtain rfl := Option.some.inj H
     have hcz36_0 := cells_16 BK393.out
     have hfz36_0 := fun j_ => blk_frozen BK393.out j_
     go_wp2
     go_ret
     exact ⟨kE, by exact kB1 HB.out GE393.out⟩
    rw [if_neg c31] at H
    have c31b0 : decide (b12 < 4294967296) = false := decide_eq_false c31
    clear c31
    obtain rfl := Option.some.inj H
    have hcz37_0 := cells_16 BK393.out
    have hfz37_0 := fun j_ => blk_frozen BK393.out j_
    go_wp2
    go_ret
    exact ⟨kE, by exact kB1 HB.out GE393.out⟩
   rw [if_neg c30] at H
   have c30b0 : decide (0 ≤ b12) = false := decide_eq_false c30
   clear c30
   obtain rfl := Option.some.inj H
   have hcz38_0 := cells_16 BK393.out
   have hfz38_0 := fun j_ => blk_frozen BK393.out j_
   go_wp2
   go_ret
   exact ⟨kE, by exact kB1 HB.out GE393.out⟩
  replace c29 := Bool.eq_false_iff.mpr c29
  subst c29
  rw [if_neg (show ¬ (false = true) by decide)] at H
  by_cases c39 : b12 = 0
  ·rw [if_pos c39] at H
   have c39b0 : (b12 == 0) = true := beq_iff_eq.mpr c39
   have c39b1 : (b12 != 0) = false := bne_eq_false_iff_eq.mpr c39
   clear c39
   by_cases c40 : b13 = 0
   ·rw [if_pos c40] at H
    have c40b0 : (b13 == 0) = true := beq_iff_eq.mpr c40
    have c40b1 : (b13 != 0) = false := bne_eq_false_iff_eq.mpr c40
    clear c40
    obtain rfl := Option.some.inj H
    have hcz41_0 := cells_16 BK393.out
    have hfz41_0 := fun j_ => blk_frozen BK393.out j_
    go_wp2
    go_ret
    exact ⟨kE, by exact kB1 HB.out GE393.out⟩
   rw [if_neg c40] at H
   have c40b0 : (b13 == 0) = false := beq_eq_false_iff_ne.mpr c40
   have c40b1 : (b13 != 0) = true := bne_iff_ne.mpr c40
   obtain rfl := Option.some.inj H
   have hcz42_0 := cells_16 BK393.out
   have hfz42_0 := fun j_ => blk_frozen BK393.out j_
   go_wp2
   go_ret
   exact ⟨kE, by exact kB1 HB.out GE393.out⟩
  rw [if_neg c39] at H
  have c39b0 : (b12 == 0) = false := beq_eq_false_iff_ne.mpr c39
  have c39b1 : (b12 != 0) = true := bne_iff_ne.mpr c39
  obtain rfl := Option.some.inj H
  have hcz43_0 := cells_16 BK393.out
  have hfz43_0 := fun j_ => blk_frozen BK393.out j_
  go_wp2
  go_ret
  exact ⟨kE, by exact kB1 HB.out GE393.out⟩

/-! ### intrusionref12_put: function 66 -/
def intrusionref12_put.l0 : Nat → Int → List Int → Int → Option (ByteArray)
 | 0, _, _, _ => none
 | k + 1, x0, x5, x6 => if x6 ≥ 0 then (if 0 ≤ (IntKind.u64.wrap (wrap64 (8 * x6))) then (if x5.length < 140737488355328 then (intrusionref12_put.l0 k x0 (x5 ++ [(shr .i64 x0 (IntKind.u64.wrap (wrap64 (8 * x6)))) % 256]) (wrap64 (x6 - 1))) else (none)) else (none)) else (some (strOfNums x5))
def intrusionref12_put.f (k : Nat) (a0 : Int) (a1 : Int) : Option (ByteArray) := intrusionref12_put.l0 k a0 ([] : List Int) (wrap64 (a1 - 1))
theorem intrusionref12_put.mono_l : ∀ k, (∀ y0 y1 y2, LeO (intrusionref12_put.l0 k y0 y1 y2) (intrusionref12_put.l0 (k + 1) y0 y1 y2))
 | 0 => fun _ _ _ r h => by simp [intrusionref12_put.l0] at h
 | k + 1 => by
  have ih0 := intrusionref12_put.mono_l k
  intro y0 y1 y2
  unfold intrusionref12_put.l0
  repeat' first | with_reducible first | apply ih0 | apply LeO.refl | apply LeO.none | refine LeO.ite ?_ ?_ | refine LeO.bind ?_ (fun _ => ?_)
theorem intrusionref12_put.mono : ∀ a0 a1 k, LeO (intrusionref12_put.f k a0 a1) (intrusionref12_put.f (k + 1) a0 a1) := by
 intro a0 a1 k
 have ih0 := intrusionref12_put.mono_l k
 unfold intrusionref12_put.f
 repeat' first | with_reducible first | apply ih0 | apply LeO.refl | apply LeO.none | refine LeO.ite ?_ ?_ | refine LeO.bind ?_ (fun _ => ?_)
set_option maxHeartbeats 8000000 in
set_option maxRecDepth 100000 in
theorem intrusionref12_put.calls (k : Nat) (a0 : Int) (a1 : Int) (r : ByteArray) (w : World) (h : intrusionref12_put.f k a0 a1 = some r) :
  Calls Tryd.prog 66 #[.int .i64 a0, .int .i64 a1] w fun e w' => e = .returned (.string r) ∧ Below w.heap.size w w' := by
 have HB := As (Below.refl w.heap.size w)
 have H : (intrusionref12_put.l0 k a0 ([] : List Int) (wrap64 (a1 - 1))) = some r := h
 clear h
 have H' := As H
 clear H
 go_enter Tryd.func66, Tryd.ntmps66
 go_wp2
 go_loopg [5, 6] k (fun kq v5 v6 w' => ∃ (x5_1 : List Int) (x6_1 : Int), v6 = .int .i64 x6_1 ∧ Aside0 (intrusionref12_put.l0 kq a0 x5_1 x6_1 = some r) ∧ Aside0 (kq ≤ k) ∧ Aside0 (Kd.R (Kd.int .u8) 5 w' w.heap.size (fun _ => True) v5 x5_1) ∧ Aside0 (Below w.heap.size w w'))
 case atStart => exact ⟨(([] : List Int)), (wrap64 (a1 - 1)), kS, H', ⟨Nat.le_refl _⟩, ⟨by first | exact Kd.R_nil _ _ _ _ _ | exact Kd.N_nil _ _ _ _ _ | exact Kd.V_nil _ _ _ _ _ | exact Kd.Q_nil _ _ _ _ _ | exact Kd.S_nil _ _ _ _ _⟩, ⟨kB HB.out⟩⟩
 clear H'
 obtain ⟨x5_1, x6_1, rfl, HA, HK1, HO_5, HB⟩ := hrel
 cases gk with
 | zero => exact absurd HA.out (by simp [intrusionref12_put.l0])
 | succ k1 =>
  have H := HA.out
  clear HA
  simp only [intrusionref12_put.l0] at H
  by_cases c3 : x6_1 ≥ 0
  ·rw [if_pos c3] at H
   have c3b0 : decide (0 ≤ x6_1) = true := decide_eq_true c3
   clear c3
   obtain ⟨ji4, hji4⟩ : ∃ j_ : Int, (IntKind.u64.wrap (wrap64 (8 * x6_1))) = j_ := ⟨_, rfl⟩
   replace H : (if 0 ≤ (ji4) then (if x5_1.length < 140737488355328 then (intrusionref12_put.l0 k1 a0 (x5_1 ++ [(shr .i64 a0 (ji4)) % 256]) (wrap64 (x6_1 - 1))) else (none)) else (none)) = some r := by first | (rw [hji4] at H; exact H) | (simp only [hji4] at H ⊢; exact H)
   replace H := iS H
   obtain ⟨c5, H⟩ := H
   have c5b0 := eq_true c5
   have c5b1 := decide_eq_true c5
   clear c5
   obtain ⟨ji6, hji6⟩ : ∃ j_ : Int, (shr .i64 a0 (ji4)) = j_ := ⟨_, rfl⟩
   replace H : (if x5_1.length < 140737488355328 then (intrusionref12_put.l0 k1 a0 (x5_1 ++ [(ji6) % 256]) (wrap64 (x6_1 - 1))) else (none)) = some r := by first | (rw [hji6] at H; exact H) | (simp only [hji6] at H ⊢; exact H)
   have hji6_ : (a0 / 2 ^ min (ji4).toNat 64) = ji6 := hji6
   have hji6z : (ji4) ≤ 64 → (a0 / 2 ^ (ji4).toNat) = ji6 := shr_small hji6
   replace H := iS H
   obtain ⟨c7, H⟩ := H
   have LMc7 := As c7
   clear c7
   obtain ⟨y395, hy395⟩ : ∃ y_ : List Int, y_ = (x5_1 ++ [(ji6) % 256]) := ⟨_, rfl⟩
   replace H : (intrusionref12_put.l0 k1 a0 y395 (wrap64 (x6_1 - 1))) = some r := by first | (rw [hy395]; with_reducible exact H) | (have H2_ := (Option.bind_some _ _).symm.trans H; rw [hy395]; with_reducible exact H2_) | (have H2_ := (Option.bind_some _ _).symm.trans H; with_reducible exact H2_) | with_reducible exact H | (rw [hy395]; exact H) | exact H
   have Ny395 := As hy395
   clear hy395
   have H' := As H
   clear H
   go_wp2_with (first | ((with_reducible refine gate_builtin (b := .append) (xs := #[.tmp 13, .tmp 20]) rfl ?_); at_builtin; refine Kd.R_append (Kd.int .u8) (w0 := w) w.heap.size rfl (.tmp 13) (.tmp 20) 47 5 (.int .u8 0) 1 rfl Tryd.underlying47 info5 rfl (by decide) (by omega) u5 x5_1 ((ji6) % 256) [.int .u8 ((ji6) % 256)] (fun _ => True) (fun _ => False) rfl rfl ?aP (fun _ hk => hk.elim) ?aF ?aO ?aB ?aS ?aL ?_; (case aP => exact rfl); (case aB => exact (kB HB.out)); (case aF => exact (fun _ _ => trivial)); (case aO => exact (kR HO_5.out)); (case aS => exact (below_size (kB HB.out))); (case aL => have := LMc7.out; omega); intro v396 w8 ho hb hg hat; rw [← Ny395.out] at ho; replace HB := As (hb); have HO397 := As (ho); clear HO_5; clear ho hb hg hat))
   go_roundg k1
   case measure => have := HK1.out; omega
   case rel => exact ⟨(y395), (wrap64 (x6_1 - 1)), kS, H', ⟨by have := HK1.out; omega⟩, ⟨by (with_reducible repeat (first | apply Kd.R_alloc | apply Kd.R_drewN | apply Kd.R_drew)); exact HO397.out⟩, ⟨kB HB.out⟩⟩
  rw [if_neg c3] at H
  have c3b0 : decide (0 ≤ x6_1) = false := decide_eq_false c3
  clear c3
  obtain rfl := Option.some.inj H
  have hcv9 := own_string (P := Tryd.prog) Tryd.underlying47 Tryd.underlying5 Tryd.underlying9 (Kd.own_of_R HO_5.out)
  go_wp2
  go_ret
  exact ⟨kE, by exact kB HB.out⟩

/-! ### intrusionref06_Bytes: function 67 -/
mutual
def intrusionref06_Bytes.l0 : Nat → List Int → Int → Bool → Int → Int → Option (ByteArray)
 | 0, _, _, _, _, _ => none
 | k + 1, x3, x4, x399000, x399001, x399002 => if x4 ≥ 0 then (if 0 ≤ (IntKind.u64.wrap (wrap64 (8 * x4))) then (if x3.length < 140737488355328 then (intrusionref06_Bytes.l0 k (x3 ++ [(shr .u64 x399001 (IntKind.u64.wrap (wrap64 (8 * x4)))) % 256]) (wrap64 (x4 - 1)) x399000 x399001 x399002) else (none)) else (none)) else (intrusionref06_Bytes.l1 k x3 7 x399000 x399001 x399002)
def intrusionref06_Bytes.l1 : Nat → List Int → Int → Bool → Int → Int → Option (ByteArray)
 | 0, _, _, _, _, _ => none
 | k + 1, x3, x5, x399000, x399001, x399002 => if x5 ≥ 0 then (if 0 ≤ (IntKind.u64.wrap (wrap64 (8 * x5))) then (if x3.length < 140737488355328 then (intrusionref06_Bytes.l1 k (x3 ++ [(shr .u64 x399002 (IntKind.u64.wrap (wrap64 (8 * x5)))) % 256]) (wrap64 (x5 - 1)) x399000 x399001 x399002) else (none)) else (none)) else (some (strOfNums x3))
def intrusionref06_Bytes.l2 : Nat → List Int → Int → Bool → Int → Int → Option (ByteArray)
 | 0, _, _, _, _, _ => none
 | k + 1, x3, x6, x399000, x399001, x399002 => if x6 ≥ 0 then (if 0 ≤ (IntKind.u64.wrap (wrap64 (8 * x6))) then (if x3.length < 140737488355328 then (intrusionref06_Bytes.l2 k (x3 ++ [(shr .u64 x399002 (IntKind.u64.wrap (wrap64 (8 * x6)))) % 256]) (wrap64 (x6 - 1)) x399000 x399001 x399002) else (none)) else (none)) else (some (strOfNums x3))
end
def intrusionref06_Bytes.f (k : Nat) (b0 : Bool) (b1 : Int) (b2 : Int) : Option (ByteArray) := if b0 = true then (intrusionref06_Bytes.l0 k ([] : List Int) 7 b0 b1 b2) else (intrusionref06_Bytes.l2 k ([] : List Int) 3 b0 b1 b2)
theorem intrusionref06_Bytes.mono_l : ∀ k, (∀ y0 y1 y2 y3 y4, LeO (intrusionref06_Bytes.l0 k y0 y1 y2 y3 y4) (intrusionref06_Bytes.l0 (k + 1) y0 y1 y2 y3 y4)) ∧ (∀ y0 y1 y2 y3 y4, LeO (intrusionref06_Bytes.l1 k y0 y1 y2 y3 y4) (intrusionref06_Bytes.l1 (k + 1) y0 y1 y2 y3 y4)) ∧ (∀ y0 y1 y2 y3 y4, LeO (intrusionref06_Bytes.l2 k y0 y1 y2 y3 y4) (intrusionref06_Bytes.l2 (k + 1) y0 y1 y2 y3 y4))
 | 0 => ⟨fun _ _ _ _ _ r h => by simp [intrusionref06_Bytes.l0] at h, fun _ _ _ _ _ r h => by simp [intrusionref06_Bytes.l1] at h, fun _ _ _ _ _ r h => by simp [intrusionref06_Bytes.l2] at h⟩
 | k + 1 => by
  obtain ⟨ih0, ih1, ih2⟩ := intrusionref06_Bytes.mono_l k
  refine ⟨?_, ?_, ?_⟩
  ·intro y0 y1 y2 y3 y4
   unfold intrusionref06_Bytes.l0
   repeat' first | with_reducible first | apply ih0 | apply ih1 | apply ih2 | apply LeO.refl | apply LeO.none | refine LeO.ite ?_ ?_ | refine LeO.bind ?_ (fun _ => ?_)
  ·intro y0 y1 y2 y3 y4
   unfold intrusionref06_Bytes.l1
   repeat' first | with_reducible first | apply ih0 | apply ih1 | apply ih2 | apply LeO.refl | apply LeO.none | refine LeO.ite ?_ ?_ | refine LeO.bind ?_ (fun _ => ?_)
  intro y0 y1 y2 y3 y4
  unfold intrusionref06_Bytes.l2
  repeat' first | with_reducible first | apply ih0 | apply ih1 | apply ih2 | apply LeO.refl | apply LeO.none | refine LeO.ite ?_ ?_ | refine LeO.bind ?_ (fun _ => ?_)
theorem intrusionref06_Bytes.mono : ∀ a0 a1 a2 k, LeO (intrusionref06_Bytes.f k a0 a1 a2) (intrusionref06_Bytes.f (k + 1) a0 a1 a2) := by
 intro a0 a1 a2 k
 obtain ⟨ih0, ih1, ih2⟩ := intrusionref06_Bytes.mono_l k
 unfold intrusionref06_Bytes.f
 repeat' first | with_reducible first | apply ih0 | apply ih1 | apply ih2 | apply LeO.refl | apply LeO.none | refine LeO.ite ?_ ?_ | refine LeO.bind ?_ (fun _ => ?_)
set_option maxHeartbeats 8000000 in
set_option maxRecDepth 100000 in
theorem intrusionref06_Bytes.calls (k : Nat) (b0 : Bool) (b1 : Int) (b2 : Int) (r : ByteArray) (w : World) (h : intrusionref06_Bytes.f k b0 b1 b2 = some r) :
  Calls Tryd.prog 67 #[.agg #[.bool b0, .int .u64 b1, .int .u64 b2]] w fun e w' => e = .returned (.string r) ∧ Below w.heap.size w w' := by
 have hu24 := Tryd.underlying24
 have HB := As (Below.refl w.heap.size w)
 have H : (if b0 = true then (intrusionref06_Bytes.l0 k ([] : List Int) 7 b0 b1 b2) else (intrusionref06_Bytes.l2 k ([] : List Int) 3 b0 b1 b2)) = some r := h
 clear h
 by_cases c2 : b0 = true
 ·subst c2
  rw [if_pos rfl] at H
  have H' := As H
  clear H
  go_enter Tryd.func67, Tryd.ntmps67
  go_wp2_with (first | ((with_reducible refine gate_dst (N := 1) rfl ?_); refine box_event rfl (N := 1) rfl (cs := #[.bool true, .int .u64 b1, .int .u64 b2]) (t := 24) kG ?_; intro gb398 hg w3 hbox hb; have BK398 := As (hbox); have GW398 := As ((by rw [hg]; exact (below_size (kB HB.out)) : w.heap.size ≤ gb398)); have GE398 := As ((by rw [hg]; exact (below_size (kB HB.out)) : w.heap.size ≤ gb398)); replace HB := As (below_step (kB HB.out) hb); clear hb hbox hg; have hcz4_0 := cells_3 BK398.out; have hfz4_0 := fun j_ => blk_frozen BK398.out j_))
  go_loopg [3, 4] k (fun kq v3 v4 w' => ∃ (x3_1 : List Int) (x4_1 : Int), v4 = .int .i64 x4_1 ∧ Aside0 (intrusionref06_Bytes.l0 kq x3_1 x4_1 true b1 b2 = some r) ∧ Aside0 (kq ≤ k) ∧ Aside0 (Kd.R (Kd.int .u8) 5 w' w.heap.size (fun _ => True) v3 x3_1) ∧ Aside0 (w'.heap[gb398]? = some (.cells #[.bool true, .int .u64 b1, .int .u64 b2] 24 (0, 0))) ∧ Aside0 (Below w.heap.size w w'))
  case atStart => exact ⟨(([] : List Int)), (7), kS, H', ⟨Nat.le_refl _⟩, ⟨by first | exact Kd.R_nil _ _ _ _ _ | exact Kd.N_nil _ _ _ _ _ | exact Kd.V_nil _ _ _ _ _ | exact Kd.Q_nil _ _ _ _ _ | exact Kd.S_nil _ _ _ _ _⟩, ⟨kb BK398.out⟩, ⟨kB1 HB.out GE398.out⟩⟩
  clear H'
  try clear c2
  try clear hcz4_0
  try clear hfz4_0
  obtain ⟨x3_1, x4_1, rfl, HA, HK1, HO_3, BK398, HB⟩ := hrel
  cases gk with
  | zero => exact absurd HA.out (by simp [intrusionref06_Bytes.l0])
  | succ k1 =>
   have H := HA.out
   clear HA
   simp only [intrusionref06_Bytes.l0] at H
   by_cases c5 : x4_1 ≥ 0
   ·rw [if_pos c5] at H
    have c5b0 : decide (0 ≤ x4_1) = true := decide_eq_true c5
    clear c5
    obtain ⟨ji6, hji6⟩ : ∃ j_ : Int, (IntKind.u64.wrap (wrap64 (8 * x4_1))) = j_ := ⟨_, rfl⟩
    replace H : (if 0 ≤ (ji6) then (if x3_1.length < 140737488355328 then (intrusionref06_Bytes.l0 k1 (x3_1 ++ [(shr .u64 b1 (ji6)) % 256]) (wrap64 (x4_1 - 1)) true b1 b2) else (none)) else (none)) = some r := by first | (rw [hji6] at H; exact H) | (simp only [hji6] at H ⊢; exact H)
    replace H := iS H
    obtain ⟨c7, H⟩ := H
    have c7b0 := eq_true c7
    have c7b1 := decide_eq_true c7
    clear c7
    obtain ⟨ji8, hji8⟩ : ∃ j_ : Int, (shr .u64 b1 (ji6)) = j_ := ⟨_, rfl⟩
    replace H : (if x3_1.length < 140737488355328 then (intrusionref06_Bytes.l0 k1 (x3_1 ++ [(ji8) % 256]) (wrap64 (x4_1 - 1)) true b1 b2) else (none)) = some r := by first | (rw [hji8] at H; exact H) | (simp only [hji8] at H ⊢; exact H)
    have hji8_ : (b1 / 2 ^ min (ji6).toNat 64) = ji8 := hji8
    have hji8z : (ji6) ≤ 64 → (b1 / 2 ^ (ji6).toNat) = ji8 := shr_small hji8
    replace H := iS H
    obtain ⟨c9, H⟩ := H
    have LMc9 := As c9
    clear c9
    obtain ⟨y399, hy399⟩ : ∃ y_ : List Int, y_ = (x3_1 ++ [(ji8) % 256]) := ⟨_, rfl⟩
    replace H : (intrusionref06_Bytes.l0 k1 y399 (wrap64 (x4_1 - 1)) true b1 b2) = some r := by first | (rw [hy399]; with_reducible exact H) | (have H2_ := (Option.bind_some _ _).symm.trans H; rw [hy399]; with_reducible exact H2_) | (have H2_ := (Option.bind_some _ _).symm.trans H; with_reducible exact H2_) | with_reducible exact H | (rw [hy399]; exact H) | exact H
    have Ny399 := As hy399
    clear hy399
    have H' := As H
    clear H
    have hcz10_0 := cells_3 BK398.out
    have hfz10_0 := fun j_ => blk_frozen BK398.out j_
    go_wp2_with (first | ((with_reducible refine gate_builtin (b := .append) (xs := #[.tmp 13, .tmp 21]) rfl ?_); at_builtin; refine Kd.R_append (Kd.int .u8) (w0 := w) w.heap.size rfl (.tmp 13) (.tmp 21) 47 5 (.int .u8 0) 1 rfl Tryd.underlying47 info5 rfl (by decide) (by omega) u3 x3_1 ((ji8) % 256) [.int .u8 ((ji8) % 256)] (fun _ => True) (fun _ => False) rfl rfl ?aP (fun _ hk => hk.elim) ?aF ?aO ?aB ?aS ?aL ?_; (case aP => exact rfl); (case aB => exact (kB1 HB.out GE398.out)); (case aF => exact (fun _ _ => trivial)); (case aO => exact (kR HO_3.out)); (case aS => exact (below_size (kB1 HB.out GE398.out))); (case aL => have := LMc9.out; omega); intro v400 w11 ho hb hg hat; rw [← Ny399.out] at ho; replace BK398 := As (blk_grown (kb BK398.out) hg (Kd.R_ne HO_3.out BK398.out (by decide))); replace HB := As (hb); have HO401 := As (ho); clear HO_3; clear ho hb hg hat))
    go_roundg k1
    case measure => have := HK1.out; omega
    case rel => exact ⟨(y399), (wrap64 (x4_1 - 1)), kS, H', ⟨by have := HK1.out; omega⟩, ⟨by (with_reducible repeat (first | apply Kd.R_alloc | apply Kd.R_drewN | apply Kd.R_drew)); exact HO401.out⟩, ⟨kb BK398.out⟩, ⟨kB1 HB.out GE398.out⟩⟩
   rw [if_neg c5] at H
   have c5b0 : decide (0 ≤ x4_1) = false := decide_eq_false c5
   clear c5
   have H' := As H
   clear H
   go_wp2
   go_loopg [3, 5] k1 (fun kq v3 v5 w' => ∃ (x3_2 : List Int) (x5_2 : Int), v5 = .int .i64 x5_2 ∧ Aside0 (intrusionref06_Bytes.l1 kq x3_2 x5_2 true b1 b2 = some r) ∧ Aside0 (kq ≤ k1) ∧ Aside0 (Kd.R (Kd.int .u8) 5 w' w.heap.size (fun _ => True) v3 x3_2) ∧ Aside0 (w'.heap[gb398]? = some (.cells #[.bool true, .int .u64 b1, .int .u64 b2] 24 (0, 0))) ∧ Aside0 (Below w.heap.size w w'))
   case atStart => exact ⟨(x3_1), (7), kS, H', ⟨Nat.le_refl _⟩, ⟨by (with_reducible repeat (first | apply Kd.R_alloc | apply Kd.R_drewN | apply Kd.R_drew)); exact HO_3.out⟩, ⟨kb BK398.out⟩, ⟨kB1 HB.out GE398.out⟩⟩
   clear H'
   try clear c5
   try clear c5b0
   obtain ⟨x3_2, x5_2, rfl, HA, HK2, HO_3, BK398, HB⟩ := hrel
   cases gk with
   | zero => exact absurd HA.out (by simp [intrusionref06_Bytes.l1])
   | succ k2 =>
    have H := HA.out
    clear HA
    simp only [intrusionref06_Bytes.l1] at H
    by_cases c12 : x5_2 ≥ 0
    ·rw [if_pos c12] at H
     have c12b0 : decide (0 ≤ x5_2) = true := decide_eq_true c12
     clear c12
     obtain ⟨ji13, hji13⟩ : ∃ j_ : Int, (IntKind.u64.wrap (wrap64 (8 * x5_2))) = j_ := ⟨_, rfl⟩
     replace H : (if 0 ≤ (ji13) then (if x3_2.length < 140737488355328 then (intrusionref06_Bytes.l1 k2 (x3_2 ++ [(shr .u64 b2 (ji13)) % 256]) (wrap64 (x5_2 - 1)) true b1 b2) else (none)) else (none)) = some r := by first | (rw [hji13] at H; exact H) | (simp only [hji13] at H ⊢; exact H)
     replace H := iS H
     obtain ⟨c14, H⟩ := H
     have c14b0 := eq_true c14
     have c14b1 := decide_eq_true c14
     clear c14
     obtain ⟨ji15, hji15⟩ : ∃ j_ : Int, (shr .u64 b2 (ji13)) = j_ := ⟨_, rfl⟩
     replace H : (if x3_2.length < 140737488355328 then (intrusionref06_Bytes.l1 k2 (x3_2 ++ [(ji15) % 256]) (wrap64 (x5_2 - 1)) true b1 b2) else (none)) = some r := by first | (rw [hji15] at H; exact H) | (simp only [hji15] at H ⊢; exact H)
     have hji15_ : (b2 / 2 ^ min (ji13).toNat 64) = ji15 := hji15
     have hji15z : (ji13) ≤ 64 → (b2 / 2 ^ (ji13).toNat) = ji15 := shr_small hji15
     replace H := iS H
     obtain ⟨c16, H⟩ := H
     have LMc16 := As c16
     clear c16
     obtain ⟨y402, hy402⟩ : ∃ y_ : List Int, y_ = (x3_2 ++ [(ji15) % 256]) := ⟨_, rfl⟩
     replace H : (intrusionref06_Bytes.l1 k2 y402 (wrap64 (x5_2 - 1)) true b1 b2) = some r := by first | (rw [hy402]; with_reducible exact H) | (have H2_ := (Option.bind_some _ _).symm.trans H; rw [hy402]; with_reducible exact H2_) | (have H2_ := (Option.bind_some _ _).symm.trans H; with_reducible exact H2_) | with_reducible exact H | (rw [hy402]; exact H) | exact H
     have Ny402 := As hy402
     clear hy402
     have H' := As H
     clear H
     have hcz17_0 := cells_3 BK398.out
     have hfz17_0 := fun j_ => blk_frozen BK398.out j_
     go_wp2_with (first | ((with_reducible refine gate_builtin (b := .append) (xs := #[.tmp 27, .tmp 35]) rfl ?_); at_builtin; refine Kd.R_append (Kd.int .u8) (w0 := w) w.heap.size rfl (.tmp 27) (.tmp 35) 47 5 (.int .u8 0) 1 rfl Tryd.underlying47 info5 rfl (by decide) (by omega) u3 x3_2 ((ji15) % 256) [.int .u8 ((ji15) % 256)] (fun _ => True) (fun _ => False) rfl rfl ?aP (fun _ hk => hk.elim) ?aF ?aO ?aB ?aS ?aL ?_; (case aP => exact rfl); (case aB => exact (kB1 HB.out GE398.out)); (case aF => exact (fun _ _ => trivial)); (case aO => exact (kR HO_3.out)); (case aS => exact (below_size (kB1 HB.out GE398.out))); (case aL => have := LMc16.out; omega); intro v403 w18 ho hb hg hat; rw [← Ny402.out] at ho; replace BK398 := As (blk_grown (kb BK398.out) hg (Kd.R_ne HO_3.out BK398.out (by decide))); replace HB := As (hb); have HO404 := As (ho); clear HO_3; clear ho hb hg hat))
     go_roundg k2
     case measure => have := HK1.out; have := HK2.out; omega
     case rel => exact ⟨(y402), (wrap64 (x5_2 - 1)), kS, H', ⟨by have := HK1.out; have := HK2.out; omega⟩, ⟨by (with_reducible repeat (first | apply Kd.R_alloc | apply Kd.R_drewN | apply Kd.R_drew)); exact HO404.out⟩, ⟨kb BK398.out⟩, ⟨kB1 HB.out GE398.out⟩⟩
    rw [if_neg c12] at H
    have c12b0 : decide (0 ≤ x5_2) = false := decide_eq_false c12
    clear c12
    obtain rfl := Option.some.inj H
    have hcv19 := own_string (P := Tryd.prog) Tryd.underlying47 Tryd.underlying5 Tryd.underlying9 (Kd.own_of_R HO_3.out)
    go_wp2
    go_ret
    exact ⟨kE, by exact kB1 HB.out GE398.out⟩
 replace c2 := Bool.eq_false_iff.mpr c2
 subst c2
 rw [if_neg (show ¬ (false = true) by decide)] at H
 have H' := As H
 clear H
 go_enter Tryd.func67, Tryd.ntmps67
 go_wp2_with (first | ((with_reducible refine gate_dst (N := 1) rfl ?_); refine box_event rfl (N := 1) rfl (cs := #[.bool false, .int .u64 b1, .int .u64 b2]) (t := 24) kG ?_; intro gb398 hg w20 hbox hb; have BK398 := As (hbox); have GW398 := As ((by rw [hg]; exact (below_size (kB HB.out)) : w.heap.size ≤ gb398)); have GE398 := As ((by rw [hg]; exact (below_size (kB HB.out)) : w.heap.size ≤ gb398)); replace HB := As (below_step (kB HB.out) hb); clear hb hbox hg; have hcz21_0 := cells_3 BK398.out; have hfz21_0 := fun j_ => blk_frozen BK398.out j_))
 go_loopg [3, 6] k (fun kq v3 v6 w' => ∃ (x3_1 : List Int) (x6_1 : Int), v6 = .int .i64 x6_1 ∧ Aside0 (intrusionref06_Bytes.l2 kq x3_1 x6_1 false b1 b2 = some r) ∧ Aside0 (kq ≤ k) ∧ Aside0 (Kd.R (Kd.int .u8) 5 w' w.heap.size (fun _ => True) v3 x3_1) ∧ Aside0 (w'.heap[gb398]? = some (.cells #[.bool false, .int .u64 b1, .int .u64 b2] 24 (0, 0))) ∧ Aside0 (Below w.heap.size w w'))
 case atStart => exact ⟨(([] : List Int)), (3), kS, H', ⟨Nat.le_refl _⟩, ⟨by first | exact Kd.R_nil _ _ _ _ _ | exact Kd.N_nil _ _ _ _ _ | exact Kd.V_nil _ _ _ _ _ | exact Kd.Q_nil _ _ _ _ _ | exact Kd.S_nil _ _ _ _ _⟩, ⟨kb BK398.out⟩, ⟨kB1 HB.out GE398.out⟩⟩
 clear H'
 try clear c2
 try clear hcz21_0
 try clear hfz21_0
 obtain ⟨x3_1, x6_1, rfl, HA, HK1, HO_3, BK398, HB⟩ := hrel
 cases gk with
 | zero => exact absurd HA.out (by simp [intrusionref06_Bytes.l2])
 | succ k1 =>
  have H := HA.out
  clear HA
  simp only [intrusionref06_Bytes.l2] at H
  by_cases c22 : x6_1 ≥ 0
  ·rw [if_pos c22] at H
   have c22b0 : decide (0 ≤ x6_1) = true := decide_eq_true c22
   clear c22
   obtain ⟨ji23, hji23⟩ : ∃ j_ : Int, (IntKind.u64.wrap (wrap64 (8 * x6_1))) = j_ := ⟨_, rfl⟩
   replace H : (if 0 ≤ (ji23) then (if x3_1.length < 140737488355328 then (intrusionref06_Bytes.l2 k1 (x3_1 ++ [(shr .u64 b2 (ji23)) % 256]) (wrap64 (x6_1 - 1)) false b1 b2) else (none)) else (none)) = some r := by first | (rw [hji23] at H; exact H) | (simp only [hji23] at H ⊢; exact H)
   replace H := iS H
   obtain ⟨c24, H⟩ := H
   have c24b0 := eq_true c24
   have c24b1 := decide_eq_true c24
   clear c24
   obtain ⟨ji25, hji25⟩ : ∃ j_ : Int, (shr .u64 b2 (ji23)) = j_ := ⟨_, rfl⟩
   replace H : (if x3_1.length < 140737488355328 then (intrusionref06_Bytes.l2 k1 (x3_1 ++ [(ji25) % 256]) (wrap64 (x6_1 - 1)) false b1 b2) else (none)) = some r := by first | (rw [hji25] at H; exact H) | (simp only [hji25] at H ⊢; exact H)
   have hji25_ : (b2 / 2 ^ min (ji23).toNat 64) = ji25 := hji25
   have hji25z : (ji23) ≤ 64 → (b2 / 2 ^ (ji23).toNat) = ji25 := shr_small hji25
   replace H := iS H
   obtain ⟨c26, H⟩ := H
   have LMc26 := As c26
   clear c26
   obtain ⟨y405, hy405⟩ : ∃ y_ : List Int, y_ = (x3_1 ++ [(ji25) % 256]) := ⟨_, rfl⟩
   replace H : (intrusionref06_Bytes.l2 k1 y405 (wrap64 (x6_1 - 1)) false b1 b2) = some r := by first | (rw [hy405]; with_reducible exact H) | (have H2_ := (Option.bind_some _ _).symm.trans H; rw [hy405]; with_reducible exact H2_) | (have H2_ := (Option.bind_some _ _).symm.trans H; with_reducible exact H2_) | with_reducible exact H | (rw [hy405]; exact H) | exact H
   have Ny405 := As hy405
   clear hy405
   have H' := As H
   clear H
   have hcz27_0 := cells_3 BK398.out
   have hfz27_0 := fun j_ => blk_frozen BK398.out j_
   go_wp2_with (first | ((with_reducible refine gate_builtin (b := .append) (xs := #[.tmp 43, .tmp 51]) rfl ?_); at_builtin; refine Kd.R_append (Kd.int .u8) (w0 := w) w.heap.size rfl (.tmp 43) (.tmp 51) 47 5 (.int .u8 0) 1 rfl Tryd.underlying47 info5 rfl (by decide) (by omega) u3 x3_1 ((ji25) % 256) [.int .u8 ((ji25) % 256)] (fun _ => True) (fun _ => False) rfl rfl ?aP (fun _ hk => hk.elim) ?aF ?aO ?aB ?aS ?aL ?_; (case aP => exact rfl); (case aB => exact (kB1 HB.out GE398.out)); (case aF => exact (fun _ _ => trivial)); (case aO => exact (kR HO_3.out)); (case aS => exact (below_size (kB1 HB.out GE398.out))); (case aL => have := LMc26.out; omega); intro v406 w28 ho hb hg hat; rw [← Ny405.out] at ho; replace BK398 := As (blk_grown (kb BK398.out) hg (Kd.R_ne HO_3.out BK398.out (by decide))); replace HB := As (hb); have HO407 := As (ho); clear HO_3; clear ho hb hg hat))
   go_roundg k1
   case measure => have := HK1.out; omega
   case rel => exact ⟨(y405), (wrap64 (x6_1 - 1)), kS, H', ⟨by have := HK1.out; omega⟩, ⟨by (with_reducible repeat (first | apply Kd.R_alloc | apply Kd.R_drewN | apply Kd.R_drew)); exact HO407.out⟩, ⟨kb BK398.out⟩, ⟨kB1 HB.out GE398.out⟩⟩
  rw [if_neg c22] at H
  have c22b0 : decide (0 ≤ x6_1) = false := decide_eq_false c22
  clear c22
  obtain rfl := Option.some.inj H
  have hcv29 := own_string (P := Tryd.prog) Tryd.underlying47 Tryd.underlying5 Tryd.underlying9 (Kd.own_of_R HO_3.out)
  go_wp2
  go_ret
  exact ⟨kE, by exact kB1 HB.out GE398.out⟩

end Go.Proofs.YtocobalkikkhlaaDoor.X
-- short
-- short2
