/- Functions and their walks, printed by xprint.py. -/
import Derived.Test.YtocobalkikkhlaaDoorX0
import Derived.Test.YtocobalkikkhlaaDoorX10
import Derived.Test.YtocobalkikkhlaaDoorX13
namespace Go.Proofs.YtocobalkikkhlaaDoor.X
open Go.RowKit Go.Proofs.YtocobalkikkhlaaDoorW.PrintWords Go.Proofs.YtocobalkikkhlaaDoorW.PrintLast Go.Proofs.YtocobalkikkhlaaDoorW.PrintMore
attribute [local go_sem] max2_int min2_int max_two min_two max_three min_three max_four min_four   -- for this text's walks alone
set_option linter.unusedVariables false
set_option linter.unusedSimpArgs false

/-! ### tunnel_Packet: function 14 -/
def tunnel_Packet.f (k : Nat) (b0 : Bool) (b1 : Int) (b2 : Int) (b3 : Bool) (b4 : Int) (b5 : Int) (b6 : Int) (b7 : Int) (b8 : ByteArray) (a1 : Int) : Option (ByteArray × Int) := if b0 = true then ((ipv6_Encode.f k 0 0 b7 b6 b0 b1 b2 b3 b4 b5 ([] : List (S91)) false 0 0 false b8).bind fun bt340 => (some (bt340.1, bt340.2))) else ((ipv4_Encode.f k 0 a1 b7 b6 false false 0 b0 b1 b2 b3 b4 b5 ([] : List (S125)) b8).bind fun bt342 => (some (bt342.1, bt342.2)))
theorem tunnel_Packet.mono : ∀ a0 a1 a2 a3 a4 a5 a6 a7 a8 a9 k, LeO (tunnel_Packet.f k a0 a1 a2 a3 a4 a5 a6 a7 a8 a9) (tunnel_Packet.f (k + 1) a0 a1 a2 a3 a4 a5 a6 a7 a8 a9) := by
 intro a0 a1 a2 a3 a4 a5 a6 a7 a8 a9 k
 unfold tunnel_Packet.f
 repeat' first | with_reducible first | apply ipv4_Encode.mono | apply ipv6_Encode.mono | apply LeO.refl | apply LeO.none | refine LeO.ite ?_ ?_ | refine LeO.bind ?_ (fun _ => ?_)
set_option maxHeartbeats 8000000 in
set_option maxRecDepth 100000 in
theorem tunnel_Packet.calls (k : Nat) (b0 : Bool) (b1 : Int) (b2 : Int) (b3 : Bool) (b4 : Int) (b5 : Int) (b6 : Int) (b7 : Int) (b8 : ByteArray) (a1 : Int) (r1 : ByteArray) (r2 : Int) (w : World) (h : tunnel_Packet.f k b0 b1 b2 b3 b4 b5 b6 b7 b8 a1 = some (r1, r2)) :
  Calls Tryd.prog 14 #[.agg #[.bool b0, .int .u64 b1, .int .u64 b2, .bool b3, .int .u64 b4, .int .u64 b5, .int .i64 b6, .int .i64 b7, .string b8], .int .i64 a1] w fun e w' => e = .returned (.tuple #[.string r1, .int .i64 r2]) ∧ Below w.heap.size w w' := by
 have hu30 := Tryd.underlying30
 have hu24 := Tryd.underlying24
 have hu60 := Tryd.underlying60
 have hu64 := Tryd.underlying64
 have HB := As (Below.refl w.heap.size w)
 have H : (if b0 = true then ((ipv6_Encode.f k 0 0 b7 b6 b0 b1 b2 b3 b4 b5 ([] : List (S91)) false 0 0 false b8).bind fun bt340 => (some (bt340.1, bt340.2))) else ((ipv4_Encode.f k 0 a1 b7 b6 false false 0 b0 b1 b2 b3 b4 b5 ([] : List (S125)) b8).bind fun bt342 => (some (bt342.1, bt342.2)))) = some (r1, r2) := h
 clear h
 by_cases c3 : b0 = true
 ·subst c3
  rw [if_pos rfl] at H
  replace H := bS H
  obtain ⟨⟨t340, t341⟩, A4, H⟩ := H
  try dsimp -simprocs only at H
  simp only [Option.some.injEq, Prod.mk.injEq] at H
  obtain ⟨rfl, rfl⟩ := H
  go_enter Tryd.func14, Tryd.ntmps14
  go_wp2_with (first | ((with_reducible refine gate_dst (N := 2) rfl ?_); refine box_event rfl (N := 2) rfl (cs := #[.bool true, .int .u64 b1, .int .u64 b2, .bool b3, .int .u64 b4, .int .u64 b5, .int .i64 b6, .int .i64 b7, .string b8]) (t := 30) kG ?_; intro gb339 hg w5 hbox hb; have BK339 := As (hbox); have GW339 := As (gS hg (below_size (kB HB.out))); have GE339 := As (gS hg (below_size (kB HB.out))); replace HB := As (below_step (kB HB.out) hb); clear hb hbox hg; have hcz6_0 := cells_9 BK339.out; have hfz6_0 := fun j_ => blk_frozen BK339.out j_) | ((with_reducible refine gate_callee (f := 35) rfl ?_); refine goesL_ (some 20) rfl rfl Tryd.func35 (by kernel_rfl) rfl #[.agg #[.int .i64 0, .int .i64 0, .int .i64 b7, .int .i64 b6, .bool true, .int .u64 b1, .int .u64 b2, .bool b3, .int .u64 b4, .int .u64 b5, .slice none 0 0, .bool false, .int .i64 0, .int .i64 0, .bool false, .string b8]] rfl kA ?_; (refine (ipv6_Encode.calls k 0 0 b7 b6 true b1 b2 b3 b4 b5 _ _ ([] : List (S91)) false 0 0 false b8 t340 t341 _ ?side1 ?side2 A4.out).mono ?_); (case side1 => exact Kd.C_nil _ _); (case side2 => exact Nat.le_refl _); rintro e w7 ⟨rfl, hb⟩; refine ⟨_, rfl, ?_⟩; replace BK339 := As (blk_below (kb BK339.out) hb); replace HB := As (below_step (kB1 HB.out GE339.out) hb); (try clear hb)))
  go_ret2
  exact ⟨kE, by exact kB1 HB.out GE339.out⟩
 replace c3 := Bool.eq_false_iff.mpr c3
 subst c3
 rw [if_neg (show ¬ (false = true) by decide)] at H
 replace H := bS H
 obtain ⟨⟨t342, t343⟩, A8, H⟩ := H
 try dsimp -simprocs only at H
 simp only [Option.some.injEq, Prod.mk.injEq] at H
 obtain ⟨rfl, rfl⟩ := H
 go_enter Tryd.func14, Tryd.ntmps14
 go_wp2_with (first | ((with_reducible refine gate_dst (N := 2) rfl ?_); refine box_event rfl (N := 2) rfl (cs := #[.bool false, .int .u64 b1, .int .u64 b2, .bool b3, .int .u64 b4, .int .u64 b5, .int .i64 b6, .int .i64 b7, .string b8]) (t := 30) kG ?_; intro gb339 hg w9 hbox hb; have BK339 := As (hbox); have GW339 := As (gS hg (below_size (kB HB.out))); have GE339 := As (gS hg (below_size (kB HB.out))); replace HB := As (below_step (kB HB.out) hb); clear hb hbox hg; have hcz10_0 := cells_9 BK339.out; have hfz10_0 := fun j_ => blk_frozen BK339.out j_) | ((with_reducible refine gate_callee (f := 36) rfl ?_); refine goesL_ (some 35) rfl rfl Tryd.func36 (by kernel_rfl) rfl #[.agg #[.int .i64 0, .int .i64 a1, .int .i64 b7, .int .i64 b6, .bool false, .bool false, .int .i64 0, .bool false, .int .u64 b1, .int .u64 b2, .bool b3, .int .u64 b4, .int .u64 b5, .slice none 0 0, .string b8]] rfl kA ?_; (refine (ipv4_Encode.calls k 0 a1 b7 b6 false false 0 false b1 b2 b3 b4 b5 _ _ ([] : List (S125)) b8 t342 t343 _ ?side1 ?side2 A8.out).mono ?_); (case side1 => exact Kd.C_nil _ _); (case side2 => exact Nat.le_refl _); rintro e w11 ⟨rfl, hb⟩; refine ⟨_, rfl, ?_⟩; replace BK339 := As (blk_below (kb BK339.out) hb); replace HB := As (below_step (kB1 HB.out GE339.out) hb); (try clear hb)))
 go_ret2
 exact ⟨kE, by exact kB1 HB.out GE339.out⟩

/-! ### address_value: function 108 -/
def address_value.l0 : Nat → ByteArray → Int → Int → Int → Option (Int)
 | 0, _, _, _, _ => none
 | k + 1, x0, x3, x6, x7 => if x7 < x6 then (if 0 ≤ x7 then (if x7 < (x0.size : Int) then (address_value.l0 k x0 (Go.bits .or .u64 (IntKind.u64.wrap (x3 * 256)) (IntKind.u64.wrap (bt x0 x7))) x6 (wrap64 (x7 + 1))) else (none)) else (none)) else (some x3)
def address_value.f (k : Nat) (a0 : ByteArray) : Option (Int) := address_value.l0 k a0 0 (a0.size : Int) 0
theorem address_value.mono_l : ∀ k, (∀ y0 y1 y2 y3, LeO (address_value.l0 k y0 y1 y2 y3) (address_value.l0 (k + 1) y0 y1 y2 y3))
 | 0 => fun _ _ _ _ r h => by simp [address_value.l0] at h
 | k + 1 => by
  have ih0 := address_value.mono_l k
  intro y0 y1 y2 y3
  unfold address_value.l0
  repeat' first | with_reducible first | apply ih0 | apply LeO.refl | apply LeO.none | refine LeO.ite ?_ ?_ | refine LeO.bind ?_ (fun _ => ?_)
theorem address_value.mono : ∀ a0 k, LeO (address_value.f k a0) (address_value.f (k + 1) a0) := by
 intro a0 k
 have ih0 := address_value.mono_l k
 unfold address_value.f
 repeat' first | with_reducible first | apply ih0 | apply LeO.refl | apply LeO.none | refine LeO.ite ?_ ?_ | refine LeO.bind ?_ (fun _ => ?_)
set_option maxHeartbeats 8000000 in
set_option maxRecDepth 100000 in
theorem address_value.calls (k : Nat) (a0 : ByteArray) (r : Int) (w : World) (h : address_value.f k a0 = some r) :
  Calls Tryd.prog 108 #[.string a0] w fun e w' => e = .returned (.int .u64 r) ∧ Drawn0 w w' := by
 have H : (address_value.l0 k a0 0 (a0.size : Int) 0) = some r := h
 clear h
 have H' := As H
 clear H
 go_enter Tryd.func108, Tryd.ntmps108
 go_wp2
 go_loopg [3, 7] k (fun kq v3 v7 w' => ∃ (x3_1 : Int) (x7_1 : Int), v3 = .int .u64 x3_1 ∧ v7 = .int .i64 x7_1 ∧ Aside0 (address_value.l0 kq a0 x3_1 (a0.size : Int) x7_1 = some r) ∧ Aside0 (kq ≤ k) ∧ Drawn0 w w')
 case atStart => exact ⟨(0), (0), kS, kS, H', ⟨Nat.le_refl _⟩, by repeat (first | exact Drawn0.refl _ | apply Drawn0.step)⟩
 clear H'
 obtain ⟨x3_1, x7_1, rfl, rfl, HA, HK1, ⟨m1, rfl⟩⟩ := hrel
 cases gk with
 | zero => exact absurd HA.out (by simp [address_value.l0])
 | succ k1 =>
  have H := HA.out
  clear HA
  simp only [address_value.l0] at H
  by_cases c2 : x7_1 < (a0.size : Int)
  ·rw [if_pos c2] at H
   have c2b0 : decide (x7_1 < (a0.size : Int)) = true := decide_eq_true c2
   clear c2
   replace H := iS H
   obtain ⟨c3, H⟩ := H
   have c3b0 := decide_eq_true c3
   clear c3
   replace H := iS H
   obtain ⟨c4, H⟩ := H
   have c4b0 := decide_eq_true c4
   clear c4
   have H' := As H
   clear H
   have p5 : 0 ≤ (x7_1 : Int) := of_decide_eq_true (by first | (with_reducible assumption) | assumption)
   have q5 : x7_1 < (a0.size : Int) := of_decide_eq_true (by first | (with_reducible assumption) | assumption)
   have hx5 := bt_at a0 x7_1
   replace p5 := eq_true p5
   replace q5 := eq_true q5
   go_wp2
   go_roundg k1
   case measure => have := HK1.out; omega
   case rel => exact ⟨(Go.bits .or .u64 (IntKind.u64.wrap (x3_1 * 256)) (IntKind.u64.wrap (bt a0 x7_1))), (wrap64 (x7_1 + 1)), kS, kS, H', ⟨by have := HK1.out; omega⟩, by repeat (first | exact Drawn0.refl _ | apply Drawn0.step)⟩
  rw [if_neg c2] at H
  have c2b0 : decide (x7_1 < (a0.size : Int)) = false := decide_eq_false c2
  clear c2
  obtain rfl := Option.some.inj H
  go_wp2
  go_ret
  exact ⟨by first | rfl | (simp; done) | (simp [*]; done), by repeat (first | exact Drawn0.refl _ | apply Drawn0.step)⟩

/-! ### address_FromBytes: function 75 -/
def address_FromBytes.f (k : Nat) (a0 : ByteArray) : Option (Bool × Int × Int × Int) := if (a0.size : Int) = 4 then ((address_value.f k a0).bind fun t345 => (some (false, 0, t345, 0))) else (if (a0.size : Int) = 16 then (if 0 ≤ 8 then (if 8 ≤ (a0.size : Int) then ((address_value.f k (a0.extract 0 8)).bind fun t346 => ((address_value.f k (a0.extract 8 a0.size)).bind fun t347 => (some (true, t346, t347, 0)))) else (none)) else (none)) else (some (false, 0, 0, 2)))
theorem address_FromBytes.mono : ∀ a0 k, LeO (address_FromBytes.f k a0) (address_FromBytes.f (k + 1) a0) := by
 intro a0 k
 unfold address_FromBytes.f
 repeat' first | with_reducible first | apply address_value.mono | apply LeO.refl | apply LeO.none | refine LeO.ite ?_ ?_ | refine LeO.bind ?_ (fun _ => ?_)
def address_FromBytes.T5 : Bool × List (List Nat × List Nat) := (true, [([], []), ([0], [0]), ([1], [1]), ([], []), ([3], [3]), ([4, 2], [4]), ([2, 5], [2, 5]), ([6, 5, 0, 1, 2, 3, 4, 5, 6], [6]), ([7, 0, 1, 2, 3, 4, 5, 6, 7], [])])
def address_FromBytes.B5 : List Nat := [0, 1, 3, 0, 8, 31, 63, 127, 255]
theorem address_FromBytes.tab5 : rtab .any (opsOf Tryd.f75 5) = address_FromBytes.T5 := by kernel_rfl
theorem address_FromBytes.bits5 : waitsOk address_FromBytes.T5.2 address_FromBytes.B5 = true := by kernel_rfl
set_option maxHeartbeats 8000000 in
set_option maxRecDepth 100000 in
theorem address_FromBytes.calls (k : Nat) (a0 : ByteArray) (r1 : Bool) (r2 : Int) (r3 : Int) (r4 : Int) (w : World) (h : address_FromBytes.f k a0 = some (r1, r2, r3, r4)) :
  Calls Tryd.prog 75 #[.string a0] w fun e w' => e = .returned (.tuple #[.agg #[.bool r1, .int .u64 r2, .int .u64 r3], .int .i64 r4]) ∧ Below w.heap.size w w' := by
 have hu24 := Tryd.underlying24
 have HB := As (Below.refl w.heap.size w)
 have H : (if (a0.size : Int) = 4 then ((address_value.f k a0).bind fun t345 => (some (false, 0, t345, 0))) else (if (a0.size : Int) = 16 then (if 0 ≤ 8 then (if 8 ≤ (a0.size : Int) then ((address_value.f k (a0.extract 0 8)).bind fun t346 => ((address_value.f k (a0.extract 8 a0.size)).bind fun t347 => (some (true, t346, t347, 0)))) else (none)) else (none)) else (some (false, 0, 0, 2)))) = some (r1, r2, r3, r4) := h
 clear h
 by_cases c2 : (a0.size : Int) = 4
 ·rw [if_pos c2] at H
  have c2b0 : ((a0.size : Int) == 4) = true := beq_iff_eq.mpr c2
  have c2b1 : ((a0.size : Int) != 4) = false := bne_eq_false_iff_eq.mpr c2
  clear c2
  replace H := bS H
  obtain ⟨t345, A3, H⟩ := H
  simp only [Option.some.injEq, Prod.mk.injEq] at H
  obtain ⟨rfl, rfl, rfl, rfl⟩ := H
  go_enter Tryd.func75, Tryd.ntmps75
  go_wp2_with (first | ((with_reducible refine gate_dst (N := 2) rfl ?_); refine box_event rfl (N := 2) rfl (cs := #[.bool false, .int .u64 0, .int .u64 0]) (t := 24) kG ?_; intro gb344 hg w4 hbox hb; have BK344 := As (hbox); have GW344 := As (gS hg (below_size (kB HB.out))); have GE344 := As (gS hg (below_size (kB HB.out))); replace HB := As (below_step (kB HB.out) hb); clear hb hbox hg) | ((with_reducible refine gate_callee (f := 108) rfl ?_); refine goesL_ (some 9) rfl rfl Tryd.func108 (by kernel_rfl) rfl #[.string a0] rfl kA ?_; (with_reducible refine (address_value.calls k a0 t345 _ A3.out).mono ?_); rintro e w' ⟨rfl, ⟨nd, rfl⟩⟩; refine ⟨_, rfl, ?_⟩; (try (rw [drewN_self w4]; generalize hq_ : World.drewN w4 _ = w4; have n0_ : Aside0 (w4.heap[gb344]? = some (.cells #[.bool false, .int .u64 0, .int .u64 0] 24 (0, 0))) := ⟨by rw [← hq_]; exact (kb BK344.out)⟩; have n1_ : Aside0 (Below w.heap.size w w4) := ⟨by rw [← hq_]; exact (kB1 HB.out GE344.out)⟩; clear BK344 HB hq_; have BK344 := n0_; have HB := n1_; clear n0_ n1_)); have hcz5_0 := cells_3 BK344.out; have hfz5_0 := fun j_ => blk_frozen BK344.out j_))
  refine bodyPost_ret (results_ct rfl _ _ gb344 24 #[.bool false, .int .u64 0, .int .u64 t345] (0, 0) _ rfl (by refine kb ?_; exact blk_all_3 (kb BK344.out) (by rfl)) Tryd.underlying24 rfl (by kernel_rfl)) rfl ?_
  exact ⟨kE, by exact kB1 HB.out GE344.out⟩
 rw [if_neg c2] at H
 have c2b0 : ((a0.size : Int) == 4) = false := beq_eq_false_iff_ne.mpr c2
 have c2b1 : ((a0.size : Int) != 4) = true := bne_iff_ne.mpr c2
 by_cases c6 : (a0.size : Int) = 16
 ·rw [if_pos c6] at H
  have c6b0 : ((a0.size : Int) == 16) = true := beq_iff_eq.mpr c6
  have c6b1 : ((a0.size : Int) != 16) = false := bne_eq_false_iff_eq.mpr c6
  clear c6
  replace H := iS H
  obtain ⟨c7, H⟩ := H
  have c7b0 := eq_true c7
  have c7b1 := decide_eq_true c7
  clear c7
  replace H := iS H
  obtain ⟨c8, H⟩ := H
  have c8b0 := eq_true c8
  have c8b1 := decide_eq_true c8
  clear c8
  replace H := bS H
  obtain ⟨t346, A9, H⟩ := H
  have c10b0 := eq_true (of_decide_eq_true (by first | (with_reducible assumption) | assumption) : 8 ≤ (a0.size : Int))
  replace H := bS H
  obtain ⟨t347, A11, H⟩ := H
  simp only [Option.some.injEq, Prod.mk.injEq] at H
  obtain ⟨rfl, rfl, rfl, rfl⟩ := H
  go_enter Tryd.func75, Tryd.ntmps75
  try go_wp2_with (first | ((with_reducible refine gate_dst (N := 2) rfl ?_); refine box_event rfl (N := 2) rfl (cs := #[.bool false, .int .u64 0, .int .u64 0]) (t := 24) kG ?_; intro gb344 hg w12 hbox hb; have BK344 := As (hbox); have GW344 := As (gS hg (below_size (kB HB.out))); have GE344 := As (gS hg (below_size (kB HB.out))); replace HB := As (below_step (kB HB.out) hb); clear hb hbox hg))
  replace BK344 := As (blk_drew BK344.out)
  replace HB := As (below_drew1 HB.out)
  refine start_ (n := 9) (S := fun w' => True) (ds := []) #[O, O, O, O, O, O, O, O, O] (by kernel_rfl) rfl rfl trivial (fun hHeld => ?_); refine with_tabW address_FromBytes.tab5 address_FromBytes.bits5 (fun HT_ HW_ => ?_)
  generalize w12.drew = w13 at BK344 HB hHeld ⊢
  refine kP 0 13 #[I, O, O, O, O, O, O, O, O] ?_ (any_of HT_.out (by kernel_rfl))
  refine kP 1 14 #[I, I, O, O, O, O, O, O, O] ?_ (any_of HT_.out (by kernel_rfl))
  refine kP 3 16 #[I, I, O, I, O, O, O, O, O] ?_ (any_of HT_.out (by kernel_rfl))
  refine kP 4 17 #[I, I, O, I, I, O, O, O, O] ?_ (any_of HT_.out (by kernel_rfl))
  refine one_ (i := 2) (N := some 15) #[I, I, I, I, I, O, O, O, O] rfl rfl (one_of HT_.out (by kernel_rfl)) (by decide) (fun K hK => ?_)
  refine goes_ Tryd.func108 (by kernel_rfl) rfl #[.string (a0.extract 0 8)] (by rfl) rfl rfl kA ?_
  with_reducible refine (address_value.calls k (a0.extract 0 8) t346 _ A9.out).mono ?_
  rintro e w' ⟨rfl, ⟨nd, rfl⟩⟩
  refine ⟨_, rfl, ?_⟩
  refine hK.out _ _ trivial (fun hHeld => ?_)
  clear hK K
  refine nP ?_
  refine one_ (i := 5) (N := some 18) #[I, I, I, I, I, I, O, O, O] rfl rfl (one_of HT_.out (by kernel_rfl)) (by decide) (fun K hK => ?_)
  refine goes_ Tryd.func108 (by kernel_rfl) rfl #[.string (a0.extract 8 a0.size)] (by rfl) rfl rfl kA ?_
  with_reducible refine (address_value.calls k (a0.extract 8 a0.size) t347 _ A11.out).mono ?_
  rintro e w' ⟨rfl, ⟨nd, rfl⟩⟩
  refine ⟨_, rfl, ?_⟩
  refine hK.out _ _ trivial (fun hHeld => ?_)
  clear hK K
  refine nP ?_
  refine kP 6 19 #[I, I, I, I, I, I, I, O, O] ?_ (any_of HT_.out (by kernel_rfl))
  refine one_ (i := 7) (N := none) #[I, I, I, I, I, I, I, I, O] rfl rfl (one_of HT_.out (by kernel_rfl)) (by decide) (fun K hK => ?_)
  have hs14 : w13.cell? ⟨gb344, 0, none⟩ = some (.bool false) := (blk_cell BK344.out 0).trans rfl
  have hfs14 := blk_frozen BK344.out 0
  have hs15 : w13.cell? ⟨gb344, 1, none⟩ = some (.int .u64 0) := (blk_cell BK344.out 1).trans rfl
  have hfs15 := blk_frozen BK344.out 1
  have hs16 : w13.cell? ⟨gb344, 2, none⟩ = some (.int .u64 0) := (blk_cell BK344.out 2).trans rfl
  have hfs16 := blk_frozen BK344.out 2
  refine skip_ (w1 := ?_) (by rfl) rfl ?_ ?_
  rotate_left
  ·go_simp
   rfl
  refine hK.out _ _ trivial (fun hHeld => ?_)
  clear hK K
  refine kP 8 3 #[I, I, I, I, I, I, I, I, I] ?_ (any_of HT_.out (by kernel_rfl))
  refine done_ (done_of HT_.out (by kernel_rfl)) ?_
  try go_wp2
  refine bodyPost_ret (results_ct rfl _ _ gb344 24 #[.bool true, .int .u64 t346, .int .u64 t347] (0, 0) _ rfl (by refine kb ?_; exact blk_all_3 (kb BK344.out) (by rfl)) Tryd.underlying24 rfl (by kernel_rfl)) rfl ?_
  exact ⟨kE, by exact kB1 HB.out GE344.out⟩
 rw [if_neg c6] at H
 have c6b0 : ((a0.size : Int) == 16) = false := beq_eq_false_iff_ne.mpr c6
 have c6b1 : ((a0.size : Int) != 16) = true := bne_iff_ne.mpr c6
 simp only [Option.some.injEq, Prod.mk.injEq] at H
 obtain ⟨rfl, rfl, rfl, rfl⟩ := H
 go_enter Tryd.func75, Tryd.ntmps75
 go_wp2_with (first | ((with_reducible refine gate_dst (N := 2) rfl ?_); refine box_event rfl (N := 2) rfl (cs := #[.bool false, .int .u64 0, .int .u64 0]) (t := 24) kG ?_; intro gb344 hg w17 hbox hb; have BK344 := As (hbox); have GW344 := As (gS hg (below_size (kB HB.out))); have GE344 := As (gS hg (below_size (kB HB.out))); replace HB := As (below_step (kB HB.out) hb); clear hb hbox hg; have hcz18_0 := cells_3 BK344.out; have hfz18_0 := fun j_ => blk_frozen BK344.out j_))
 refine bodyPost_ret (results_ct rfl _ _ gb344 24 #[.bool false, .int .u64 0, .int .u64 0] (0, 0) _ rfl (by refine kb ?_; exact blk_all_3 (kb BK344.out) (by rfl)) Tryd.underlying24 rfl (by kernel_rfl)) rfl ?_
 exact ⟨kE, by exact kB1 HB.out GE344.out⟩

/-! ### ipv4_options: function 77 -/
def ipv4_options.l0 : Nat → List Int → List (S125) → Int → Option ((List (S125)) × Bool)
 | 0, _, _, _ => none
 | k + 1, x4, x5, x6 => if x6 < (x4.length : Int) then (if 0 ≤ x6 then (if (rd x4 x6) = 0 then (some (x5, true)) else (if (rd x4 x6) = 1 then (ipv4_options.l0 k x4 x5 (wrap64 (x6 + 1))) else (if (wrap64 (x6 + 1)) = (x4.length : Int) then (some (([] : List (S125)), false)) else (if 0 ≤ (wrap64 (x6 + 1)) then (if (wrap64 (x6 + 1)) < (x4.length : Int) then (if (wrap64 (x6 + (wrap64 (rd x4 (wrap64 (x6 + 1)))))) < (wrap64 (x6 + 2)) then (some (([] : List (S125)), false)) else (if (wrap64 (x6 + (wrap64 (rd x4 (wrap64 (x6 + 1)))))) > (x4.length : Int) then (some (([] : List (S125)), false)) else (if 0 ≤ (wrap64 (x6 + 2)) then (if (wrap64 (x6 + 2)) ≤ (wrap64 (x6 + (wrap64 (rd x4 (wrap64 (x6 + 1)))))) then (if (wrap64 (x6 + (wrap64 (rd x4 (wrap64 (x6 + 1)))))) ≤ (x4.length : Int) then (if x5.length < 5864062014805 then (ipv4_options.l0 k x4 (x5 ++ [(⟨wrap64 (rd x4 x6), strOfNums ((x4.take ((wrap64 (x6 + (wrap64 (rd x4 (wrap64 (x6 + 1)))))) : Int).toNat).drop ((wrap64 (x6 + 2)) : Int).toNat)⟩ : S125)]) (wrap64 (x6 + (wrap64 (rd x4 (wrap64 (x6 + 1))))))) else (none)) else (none)) else (none)) else (none)))) else (none)) else (none))))) else (none)) else (some (x5, true))
def ipv4_options.f (k : Nat) (a0 : ByteArray) : Option ((List (S125)) × Bool) := if a0.size ≤ 9223372036854775807 then (ipv4_options.l0 k (bytesOf a0) ([] : List (S125)) 0) else (none)
theorem ipv4_options.mono_l : ∀ k, (∀ y0 y1 y2, LeO (ipv4_options.l0 k y0 y1 y2) (ipv4_options.l0 (k + 1) y0 y1 y2))
 | 0 => fun _ _ _ r h => by simp [ipv4_options.l0] at h
 | k + 1 => by
  have ih0 := ipv4_options.mono_l k
  intro y0 y1 y2
  unfold ipv4_options.l0
  repeat' first | with_reducible first | apply ih0 | apply LeO.refl | apply LeO.none | refine LeO.ite ?_ ?_ | refine LeO.bind ?_ (fun _ => ?_)
theorem ipv4_options.mono : ∀ a0 k, LeO (ipv4_options.f k a0) (ipv4_options.f (k + 1) a0) := by
 intro a0 k
 have ih0 := ipv4_options.mono_l k
 unfold ipv4_options.f
 repeat' first | with_reducible first | apply ih0 | apply LeO.refl | apply LeO.none | refine LeO.ite ?_ ?_ | refine LeO.bind ?_ (fun _ => ?_)
def ipv4_options.T14 : Bool × List (List Nat × List Nat) := (true, [([], []), ([], []), ([], []), ([1, 2], [1, 2]), ([3], [3]), ([4], [4]), ([], []), ([], []), ([7], [7]), ([], []), ([], []), ([6, 8, 9, 10], [6, 8, 9, 10]), ([11], [11]), ([5, 12], [5, 12]), ([13], [13]), ([0, 14], [0, 14]), ([15, 15, 0, 1, 2, 3, 4, 5, 6, 7, 8, 9, 10, 11, 12, 13, 14, 15], [0, 15])])
def ipv4_options.B14 : List Nat := [0, 0, 0, 6, 14, 30, 0, 0, 128, 0, 0, 1984, 4032, 8190, 16382, 32767, 65535]
theorem ipv4_options.tab14 : rtab .any (opsOf Tryd.f77 14) = ipv4_options.T14 := by kernel_rfl
theorem ipv4_options.bits14 : waitsOk ipv4_options.T14.2 ipv4_options.B14 = true := by kernel_rfl
set_option maxHeartbeats 8000000 in
set_option maxRecDepth 100000 in
theorem ipv4_options.calls (k : Nat) (a0 : ByteArray) (r1 : List (S125)) (r2 : Bool) (w : World) (h : ipv4_options.f k a0 = some (r1, r2)) :
  Calls Tryd.prog 77 #[.string a0] w fun e w' => ∃ v0_ : Value, e = .returned (.tuple #[v0_, .bool r2]) ∧ Kd.R k125 125 w' w.heap.size (fun _ => True) v0_ r1 ∧ Below w.heap.size w w' := by
 have hu125 := Tryd.underlying125
 have HB := As (Below.refl w.heap.size w)
 have H : (if a0.size ≤ 9223372036854775807 then (ipv4_options.l0 k (bytesOf a0) ([] : List (S125)) 0) else (none)) = some (r1, r2) := h
 clear h
 replace H := iS H
 obtain ⟨c2, H⟩ := H
 have c2b0 := eq_true c2
 have c2b1 := decide_eq_true c2
 try have c2b2 := eq_false (Nat.not_lt.2 c2)
 clear c2
 obtain ⟨y348, hy348⟩ : ∃ y_ : List Int, y_ = (bytesOf a0) := ⟨_, rfl⟩
 replace H : (ipv4_options.l0 k y348 ([] : List (S125)) 0) = some (r1, r2) := by first | (rw [hy348]; with_reducible exact H) | (have H2_ := (Option.bind_some _ _).symm.trans H; rw [hy348]; with_reducible exact H2_) | (have H2_ := (Option.bind_some _ _).symm.trans H; with_reducible exact H2_) | with_reducible exact H | (rw [hy348]; exact H) | exact H
 have Ny348 := As hy348
 clear hy348
 have H' := As H
 clear H
 go_enter Tryd.func77, Tryd.ntmps77
 (try go_wp2_with (first | ((with_reducible refine gate_dst (N := 9) rfl ?_); (try (refine gate_guard (by rfl) ?_; dsimp only)); refine conv_event (e := 5) rfl (N := 9) rfl 9 47 _ rfl Tryd.underlying9 Tryd.underlying47 Tryd.underlying5 a0 rfl (of_decide_eq_true (by first | (with_reducible assumption) | assumption)) ?_; intro v349 w3 ho4 hb hg_ hnew_; clear hg_ hnew_; (first | rw [← Ny348.out] at ho4 | (simp only [Int.reduceToNat] at ho4; rw [← Ny348.out] at ho4)); have HO350 := As (Kd.V_lower (Kd.V_mono (ok' := fun k_ => True) ho4 (fun k_ hk_ => trivial)) (below_size (kB HB.out))); replace HB := As (below_step (kB HB.out) hb); clear hb ho4)))
 repeat ((first | (refine scope_plain ?_ ?hg_; case hg_ => exact fun _ _ _ h_ => h_) | go_step3); go_wp2_with (first | ((with_reducible refine gate_dst (N := 9) rfl ?_); (try (refine gate_guard (by rfl) ?_; dsimp only)); refine conv_event (e := 5) rfl (N := 9) rfl 9 47 _ rfl Tryd.underlying9 Tryd.underlying47 Tryd.underlying5 a0 rfl (of_decide_eq_true (by first | (with_reducible assumption) | assumption)) ?_; intro v349 w3 ho4 hb hg_ hnew_; clear hg_ hnew_; (first | rw [← Ny348.out] at ho4 | (simp only [Int.reduceToNat] at ho4; rw [← Ny348.out] at ho4)); have HO350 := As (Kd.V_lower (Kd.V_mono (ok' := fun k_ => True) ho4 (fun k_ hk_ => trivial)) (below_size (kB HB.out))); replace HB := As (below_step (kB HB.out) hb); clear hb ho4)))
 go_loopg [5, 6] k (fun kq v5 v6 w' => ∃ (x5_1 : List (S125)) (x6_1 : Int), v6 = .int .i64 x6_1 ∧ Aside0 (ipv4_options.l0 kq y348 x5_1 x6_1 = some (r1, r2)) ∧ Aside0 (kq ≤ k) ∧ Aside0 (Kd.V (Kd.int .u8) 5 w' w.heap.size (fun k_ => some k_ ≠ (v5 : Value).ownBlock) v349 y348) ∧ Aside0 (Kd.R k125 125 w' w.heap.size (fun _ => True) v5 x5_1) ∧ Aside0 (Below w.heap.size w w'))
 case atStart => exact ⟨(([] : List (S125))), (0), kS, H', ⟨Nat.le_refl _⟩, ⟨by (with_reducible repeat (first | apply Kd.V_alloc | apply Kd.V_drewN | apply Kd.V_drew)); exact Kd.V_mono HO350.out (fun _ hk => (by simp [Value.ownBlock]))⟩, ⟨by first | exact Kd.R_nil _ _ _ _ _ | exact Kd.N_nil _ _ _ _ _ | exact Kd.V_nil _ _ _ _ _ | exact Kd.Q_nil _ _ _ _ _ | exact Kd.S_nil _ _ _ _ _⟩, ⟨kB HB.out⟩⟩
 clear H'
 try clear c2
 try clear c2b0
 try clear c2b1
 try clear c2b2
 obtain ⟨x5_1, x6_1, rfl, HA, HK1, HO_4, HO_5, HB⟩ := hrel
 cases gk with
 | zero => exact absurd HA.out (by simp [ipv4_options.l0])
 | succ k1 =>
  have H := HA.out
  clear HA
  simp only [ipv4_options.l0] at H
  by_cases c5 : x6_1 < (y348.length : Int)
  ·rw [if_pos c5] at H
   have c5b0 : decide (x6_1 < (y348.length : Int)) = true := decide_eq_true c5
   clear c5
   replace H := iS H
   obtain ⟨c6, H⟩ := H
   have c6b0 := decide_eq_true c6
   clear c6
   by_cases c7 : (rd y348 x6_1) = 0
   ·rw [if_pos c7] at H
    have c7b0 : ((rd y348 x6_1) == 0) = true := beq_iff_eq.mpr c7
    have c7b1 : ((rd y348 x6_1) != 0) = false := bne_eq_false_iff_eq.mpr c7
    clear c7
    simp only [Option.some.injEq, Prod.mk.injEq] at H
    obtain ⟨rfl, rfl⟩ := H
    obtain ⟨Ao8, co8, eo8⟩ := Kd.V_slice HO_4.out
    subst eo8
    have p351 : 0 ≤ (x6_1 : Int) := of_decide_eq_true (by first | (with_reducible assumption) | assumption)
    have q351 : x6_1 < (y348.length : Int) := of_decide_eq_true (by first | (with_reducible assumption) | assumption)
    obtain ⟨ad351, e351, hx351_0⟩ := Kd.at_int (Kd.V_reads' HO_4.out).2.2 x6_1 p351 q351
    cases e351
    replace p351 := eq_true p351
    replace q351 := eq_true q351
    (try go_wp2)
    repeat ((first | (refine scope_plain ?_ ?hg_; case hg_ => exact fun _ _ _ h_ => h_) | go_step3); go_wp2)
    go_ret2
    exact ⟨_, kE, by (with_reducible repeat (first | apply Kd.R_alloc | apply Kd.R_drewN | apply Kd.R_drew)); exact HO_5.out, by exact kB HB.out⟩
   rw [if_neg c7] at H
   have c7b0 : ((rd y348 x6_1) == 0) = false := beq_eq_false_iff_ne.mpr c7
   have c7b1 : ((rd y348 x6_1) != 0) = true := bne_iff_ne.mpr c7
   by_cases c9 : (rd y348 x6_1) = 1
   ·rw [if_pos c9] at H
    have c9b0 : ((rd y348 x6_1) == 1) = true := beq_iff_eq.mpr c9
    have c9b1 : ((rd y348 x6_1) != 1) = false := bne_eq_false_iff_eq.mpr c9
    clear c9
    have H' := As H
    clear H
    obtain ⟨Ao10, co10, eo10⟩ := Kd.V_slice HO_4.out
    subst eo10
    have p351 : 0 ≤ (x6_1 : Int) := of_decide_eq_true (by first | (with_reducible assumption) | assumption)
    have q351 : x6_1 < (y348.length : Int) := of_decide_eq_true (by first | (with_reducible assumption) | assumption)
    obtain ⟨ad351, e351, hx351_0⟩ := Kd.at_int (Kd.V_reads' HO_4.out).2.2 x6_1 p351 q351
    cases e351
    replace p351 := eq_true p351
    replace q351 := eq_true q351
    (try go_wp2)
    repeat ((first | (refine scope_plain ?_ ?hg_; case hg_ => exact fun _ _ _ h_ => h_) | go_step3); go_wp2)
    go_roundg k1
    case measure => have := HK1.out; omega
    case rel => exact ⟨(x5_1), (wrap64 (x6_1 + 1)), kS, H', ⟨by have := HK1.out; omega⟩, ⟨by (with_reducible repeat (first | apply Kd.V_alloc | apply Kd.V_drewN | apply Kd.V_drew)); exact HO_4.out⟩, ⟨by (with_reducible repeat (first | apply Kd.R_alloc | apply Kd.R_drewN | apply Kd.R_drew)); exact HO_5.out⟩, ⟨kB HB.out⟩⟩
   rw [if_neg c9] at H
   have c9b0 : ((rd y348 x6_1) == 1) = false := beq_eq_false_iff_ne.mpr c9
   have c9b1 : ((rd y348 x6_1) != 1) = true := bne_iff_ne.mpr c9
   by_cases c11 : (wrap64 (x6_1 + 1)) = (y348.length : Int)
   ·rw [if_pos c11] at H
    have c11b0 : ((wrap64 (x6_1 + 1)) == (y348.length : Int)) = true := beq_iff_eq.mpr c11
    have c11b1 : ((wrap64 (x6_1 + 1)) != (y348.length : Int)) = false := bne_eq_false_iff_eq.mpr c11
    clear c11
    simp only [Option.some.injEq, Prod.mk.injEq] at H
    obtain ⟨rfl, rfl⟩ := H
    obtain ⟨Ao12, co12, eo12⟩ := Kd.V_slice HO_4.out
    subst eo12
    have p351 : 0 ≤ (x6_1 : Int) := of_decide_eq_true (by first | (with_reducible assumption) | assumption)
    have q351 : x6_1 < (y348.length : Int) := of_decide_eq_true (by first | (with_reducible assumption) | assumption)
    obtain ⟨ad351, e351, hx351_0⟩ := Kd.at_int (Kd.V_reads' HO_4.out).2.2 x6_1 p351 q351
    cases e351
    replace p351 := eq_true p351
    replace q351 := eq_true q351
    (try go_wp2)
    repeat ((first | (refine scope_plain ?_ ?hg_; case hg_ => exact fun _ _ _ h_ => h_) | go_step3); go_wp2)
    go_ret2
    exact ⟨_, kE, by first | exact Kd.R_nil _ _ _ _ _ | exact Kd.N_nil _ _ _ _ _ | exact Kd.V_nil _ _ _ _ _ | exact Kd.Q_nil _ _ _ _ _ | exact Kd.S_nil _ _ _ _ _, by exact kB HB.out⟩
   rw [if_neg c11] at H
   have c11b0 : ((wrap64 (x6_1 + 1)) == (y348.length : Int)) = false := beq_eq_false_iff_ne.mpr c11
   have c11b1 : ((wrap64 (x6_1 + 1)) != (y348.length : Int)) = true := bne_iff_ne.mpr c11
   obtain ⟨ji13, hji13⟩ : ∃ j_ : Int, (wrap64 (x6_1 + 1)) = j_ := ⟨_, rfl⟩
   replace H : (if 0 ≤ (ji13) then (if (ji13) < (y348.length : Int) then (if (wrap64 (x6_1 + (wrap64 (rd y348 (ji13))))) < (wrap64 (x6_1 + 2)) then (some (([] : List (S125)), false)) else (if (wrap64 (x6_1 + (wrap64 (rd y348 (ji13))))) > (y348.length : Int) then (some (([] : List (S125)), false)) else (if 0 ≤ (wrap64 (x6_1 + 2)) then (if (wrap64 (x6_1 + 2)) ≤ (wrap64 (x6_1 + (wrap64 (rd y348 (ji13))))) then (if (wrap64 (x6_1 + (wrap64 (rd y348 (ji13))))) ≤ (y348.length : Int) then (if x5_1.length < 5864062014805 then (ipv4_options.l0 k1 y348 (x5_1 ++ [(⟨wrap64 (rd y348 x6_1), strOfNums ((y348.take ((wrap64 (x6_1 + (wrap64 (rd y348 (ji13))))) : Int).toNat).drop ((wrap64 (x6_1 + 2)) : Int).toNat)⟩ : S125)]) (wrap64 (x6_1 + (wrap64 (rd y348 (ji13)))))) else (none)) else (none)) else (none)) else (none)))) else (none)) else (none)) = some (r1, r2) := by first | (rw [hji13] at H; exact H) | (simp only [hji13] at H ⊢; exact H)
   (try rw [hji13] at c11b0)
   (try rw [hji13] at c11b1)
   have hji13w : (IntKind.i64.wrap (x6_1 + 1)) = ji13 := (i64_w _).trans hji13
   replace H := iS H
   obtain ⟨c14, H⟩ := H
   have c14b0 := decide_eq_true c14
   clear c14
   replace H := iS H
   obtain ⟨c15, H⟩ := H
   have c15b0 := decide_eq_true c15
   clear c15
   by_cases c16 : (wrap64 (x6_1 + (wrap64 (rd y348 (ji13))))) < (wrap64 (x6_1 + 2))
   ·rw [if_pos c16] at H
    have c16b0 : decide ((wrap64 (x6_1 + (wrap64 (rd y348 (ji13))))) < (wrap64 (x6_1 + 2))) = true := decide_eq_true c16
    clear c16
    simp only [Option.some.injEq, Prod.mk.injEq] at H
    obtain ⟨rfl, rfl⟩ := H
    obtain ⟨Ao17, co17, eo17⟩ := Kd.V_slice HO_4.out
    subst eo17
    have p351 : 0 ≤ (x6_1 : Int) := of_decide_eq_true (by first | (with_reducible assumption) | assumption)
    have q351 : x6_1 < (y348.length : Int) := of_decide_eq_true (by first | (with_reducible assumption) | assumption)
    obtain ⟨ad351, e351, hx351_0⟩ := Kd.at_int (Kd.V_reads' HO_4.out).2.2 x6_1 p351 q351
    cases e351
    replace p351 := eq_true p351
    replace q351 := eq_true q351
    have p352 : 0 ≤ ((ji13) : Int) := of_decide_eq_true (by first | (with_reducible assumption) | assumption)
    have q352 : (ji13) < (y348.length : Int) := of_decide_eq_true (by first | (with_reducible assumption) | assumption)
    obtain ⟨ad352, e352, hx352_0⟩ := Kd.at_int (Kd.V_reads' HO_4.out).2.2 (ji13) p352 q352
    obtain rfl : ad351 = ad352 := (by injection e352)
    replace p352 := eq_true p352
    replace q352 := eq_true q352
    (try go_wp2)
    repeat ((first | (refine scope_plain ?_ ?hg_; case hg_ => exact fun _ _ _ h_ => h_) | go_step3); go_wp2)
    go_ret2
    exact ⟨_, by first | rfl | (simp [errW_none, errW_some] <;> rfl) | (simp only [← hji13]; first | rfl | (simp [errW_none, errW_some] <;> rfl)) | (simp [*, errW_none, errW_some] <;> rfl), by first | exact Kd.R_nil _ _ _ _ _ | exact Kd.N_nil _ _ _ _ _ | exact Kd.V_nil _ _ _ _ _ | exact Kd.Q_nil _ _ _ _ _ | exact Kd.S_nil _ _ _ _ _, by exact kB HB.out⟩
   rw [if_neg c16] at H
   have c16b0 : decide ((wrap64 (x6_1 + (wrap64 (rd y348 (ji13))))) < (wrap64 (x6_1 + 2))) = false := decide_eq_false c16
   clear c16
   by_cases c18 : (wrap64 (x6_1 + (wrap64 (rd y348 (ji13))))) > (y348.length : Int)
   ·rw [if_pos c18] at H
    have c18b0 : decide ((y348.length : Int) < (wrap64 (x6_1 + (wrap64 (rd y348 (ji13)))))) = true := decide_eq_true c18
    clear c18
    simp only [Option.some.injEq, Prod.mk.injEq] at H
    obtain ⟨rfl, rfl⟩ := H
    obtain ⟨Ao19, co19, eo19⟩ := Kd.V_slice HO_4.out
    subst eo19
    have p351 : 0 ≤ (x6_1 : Int) := of_decide_eq_true (by first | (with_reducible assumption) | assumption)
    have q351 : x6_1 < (y348.length : Int) := of_decide_eq_true (by first | (with_reducible assumption) | assumption)
    obtain ⟨ad351, e351, hx351_0⟩ := Kd.at_int (Kd.V_reads' HO_4.out).2.2 x6_1 p351 q351
    cases e351
    replace p351 := eq_true p351
    replace q351 := eq_true q351
    have p352 : 0 ≤ ((ji13) : Int) := of_decide_eq_true (by first | (with_reducible assumption) | assumption)
    have q352 : (ji13) < (y348.length : Int) := of_decide_eq_true (by first | (with_reducible assumption) | assumption)
    obtain ⟨ad352, e352, hx352_0⟩ := Kd.at_int (Kd.V_reads' HO_4.out).2.2 (ji13) p352 q352
    obtain rfl : ad351 = ad352 := (by injection e352)
    replace p352 := eq_true p352
    replace q352 := eq_true q352
    (try go_wp2)
    repeat ((first | (refine scope_plain ?_ ?hg_; case hg_ => exact fun _ _ _ h_ => h_) | go_step3); go_wp2)
    go_ret2
    exact ⟨_, by first | rfl | (simp [errW_none, errW_some] <;> rfl) | (simp only [← hji13]; first | rfl | (simp [errW_none, errW_some] <;> rfl)) | (simp [*, errW_none, errW_some] <;> rfl), by first | exact Kd.R_nil _ _ _ _ _ | exact Kd.N_nil _ _ _ _ _ | exact Kd.V_nil _ _ _ _ _ | exact Kd.Q_nil _ _ _ _ _ | exact Kd.S_nil _ _ _ _ _, by exact kB HB.out⟩
   rw [if_neg c18] at H
   have c18b0 : decide ((y348.length : Int) < (wrap64 (x6_1 + (wrap64 (rd y348 (ji13)))))) = false := decide_eq_false c18
   clear c18
   obtain ⟨ji20, hji20⟩ : ∃ j_ : Int, (wrap64 (x6_1 + 2)) = j_ := ⟨_, rfl⟩
   replace H : (if 0 ≤ (ji20) then (if (ji20) ≤ (wrap64 (x6_1 + (wrap64 (rd y348 (ji13))))) then (if (wrap64 (x6_1 + (wrap64 (rd y348 (ji13))))) ≤ (y348.length : Int) then (if x5_1.length < 5864062014805 then (ipv4_options.l0 k1 y348 (x5_1 ++ [(⟨wrap64 (rd y348 x6_1), strOfNums ((y348.take ((wrap64 (x6_1 + (wrap64 (rd y348 (ji13))))) : Int).toNat).drop ((ji20) : Int).toNat)⟩ : S125)]) (wrap64 (x6_1 + (wrap64 (rd y348 (ji13)))))) else (none)) else (none)) else (none)) else (none)) = some (r1, r2) := by first | (rw [hji20] at H; exact H) | (simp only [hji20] at H ⊢; exact H)
   (try rw [hji20] at c16b0)
   have hji20w : (IntKind.i64.wrap (x6_1 + 2)) = ji20 := (i64_w _).trans hji20
   replace H := iS H
   obtain ⟨c21, H⟩ := H
   have c21b0 := eq_true c21
   have c21b1 := decide_eq_true c21
   clear c21
   replace H := iS H
   obtain ⟨c22, H⟩ := H
   have c22b0 := eq_true c22
   have c22b1 := decide_eq_true c22
   replace H := iS H
   obtain ⟨c23, H⟩ := H
   have c23b0 := eq_true c23
   have c23b1 := decide_eq_true c23
   obtain ⟨y354, hy354⟩ : ∃ y_ : List Int, y_ = ((y348.take ((wrap64 (x6_1 + (wrap64 (rd y348 (ji13))))) : Int).toNat).drop ((ji20) : Int).toNat) := ⟨_, rfl⟩
   replace H : (if x5_1.length < 5864062014805 then (ipv4_options.l0 k1 y348 (x5_1 ++ [(⟨wrap64 (rd y348 x6_1), strOfNums y354⟩ : S125)]) (wrap64 (x6_1 + (wrap64 (rd y348 (ji13)))))) else (none)) = some (r1, r2) := by first | (rw [hy354]; with_reducible exact H) | (have H2_ := (Option.bind_some _ _).symm.trans H; rw [hy354]; with_reducible exact H2_) | (have H2_ := (Option.bind_some _ _).symm.trans H; with_reducible exact H2_) | with_reducible exact H | (rw [hy354]; exact H) | exact H
   have Ny354 := As hy354
   clear hy354
   replace H := iS H
   obtain ⟨c24, H⟩ := H
   have LMc24 := As c24
   clear c24
   obtain ⟨y358, hy358⟩ : ∃ y_ : List (S125), y_ = (x5_1 ++ [(⟨wrap64 (rd y348 x6_1), strOfNums y354⟩ : S125)]) := ⟨_, rfl⟩
   replace H : (ipv4_options.l0 k1 y348 y358 (wrap64 (x6_1 + (wrap64 (rd y348 (ji13)))))) = some (r1, r2) := by first | (rw [hy358]; with_reducible exact H) | (have H2_ := (Option.bind_some _ _).symm.trans H; rw [hy358]; with_reducible exact H2_) | (have H2_ := (Option.bind_some _ _).symm.trans H; with_reducible exact H2_) | with_reducible exact H | (rw [hy358]; exact H) | exact H
   have Ny358 := As hy358
   clear hy358
   have H' := As H
   clear H
   obtain ⟨Ao25, co25, eo25⟩ := Kd.V_slice HO_4.out
   subst eo25
   have p351 : 0 ≤ (x6_1 : Int) := of_decide_eq_true (by first | (with_reducible assumption) | assumption)
   have q351 : x6_1 < (y348.length : Int) := of_decide_eq_true (by first | (with_reducible assumption) | assumption)
   obtain ⟨ad351, e351, hx351_0⟩ := Kd.at_int (Kd.V_reads' HO_4.out).2.2 x6_1 p351 q351
   cases e351
   replace p351 := eq_true p351
   replace q351 := eq_true q351
   have p352 : 0 ≤ ((ji13) : Int) := of_decide_eq_true (by first | (with_reducible assumption) | assumption)
   have q352 : (ji13) < (y348.length : Int) := of_decide_eq_true (by first | (with_reducible assumption) | assumption)
   obtain ⟨ad352, e352, hx352_0⟩ := Kd.at_int (Kd.V_reads' HO_4.out).2.2 (ji13) p352 q352
   obtain rfl : ad351 = ad352 := (by injection e352)
   replace p352 := eq_true p352
   replace q352 := eq_true q352
   (try go_wp2)
   repeat ((first | (refine scope_plain ?_ ?hg_; case hg_ => exact fun _ _ _ h_ => h_) | go_step3); go_wp2)
   replace HO_4 := As (Kd.V_drew HO_4.out)
   replace HO_5 := As (Kd.R_drew HO_5.out)
   replace HB := As (below_drew1 HB.out)
   have p353 : 0 ≤ (x6_1 : Int) := of_decide_eq_true (by first | (with_reducible assumption) | assumption)
   have q353 : x6_1 < (y348.length : Int) := of_decide_eq_true (by first | (with_reducible assumption) | assumption)
   obtain ⟨ad353, e353, hx353_0⟩ := Kd.at_int (Kd.V_reads' HO_4.out).2.2 x6_1 p353 q353
   obtain rfl : ad351 = ad353 := (by injection e353)
   replace p353 := eq_true p353
   replace q353 := eq_true q353
   have q27 : ((wrap64 (x6_1 + (wrap64 (rd y348 (ji13))))) : Int) ≤ ((y348.length : Int) : Int) := of_decide_eq_true (by first | (with_reducible assumption) | assumption)
   obtain ⟨i027, hi027, _, hsz27, _⟩ := info_parts info5
   have hroom27 : y348.length ≤ co25 := (Kd.V_reads' HO_4.out).2.1
   have hC27 : Kd.C (Kd.int .u8) _ (some ad351) y348.length y348 := (Kd.V_reads' HO_4.out).2.2
   have ql27 : ((ji20) : Int) ≤ ((wrap64 (x6_1 + (wrap64 (rd y348 (ji13))))) : Int) := of_decide_eq_true (by first | (with_reducible assumption) | assumption)
   have q027 : (0 : Int) ≤ ((ji20) : Int) := of_decide_eq_true (by first | (with_reducible assumption) | assumption)
   have hcut27 := cut_max (P := Tryd.prog) 47 5 .i64 .i64 .i64 Tryd.underlying47 hi027 1 hsz27 (some ad351) y348.length co25 (ji20) (wrap64 (x6_1 + (wrap64 (rd y348 (ji13))))) q027 ql27 q27 hroom27
   have hr27 := Kd.C_drop (m := ((ji20) : Int).toNat) (c := ((wrap64 (x6_1 + (wrap64 (rd y348 (ji13))))) : Int).toNat) (Kd.C_take (m := ((wrap64 (x6_1 + (wrap64 (rd y348 (ji13))))) : Int).toNat) hC27 (by omega)) (by first | omega | (rw [List.length_take]; omega)) (by first | exact Nat.le_refl _ | omega | (rw [List.length_take]; omega))
   obtain ⟨A27, hA27⟩ : ∃ A1, A1 = (if ((wrap64 (x6_1 + (wrap64 (rd y348 (ji13))))) : Int).toNat = ((ji20) : Int).toNat then (some ad351) else ((some ad351) : Option Addr).map (·.add (((ji20) : Int).toNat * 1))) := ⟨_, rfl⟩
   have hy27 : y354.length = ((wrap64 (x6_1 + (wrap64 (rd y348 (ji13))))) : Int).toNat - ((ji20) : Int).toNat := (by rw [Ny354.out, List.length_drop, List.length_take] <;> omega)
   rw [show ((y348).take ((wrap64 (x6_1 + (wrap64 (rd y348 (ji13))))) : Int).toNat).drop ((ji20) : Int).toNat = y354 from Ny354.out.symm] at hr27
   replace hr27 : Kd.C (Kd.int .u8) _ A27 y354.length y354 := (by rw [hA27]; exact hr27)
   rw [← hy27, ← hA27] at hcut27
   have HR357 := As hr27
   have HC357 := As (Nat.le_refl y354.length)
   clear hr27 hC27 hroom27 hi027 hsz27
   have KY27 := As hy27
   have KA27 := As hA27
   clear hy27 hA27
   have KL27 := As (show ((wrap64 (x6_1 + (wrap64 (rd y348 (ji13))))) : Int).toNat ≤ y348.length from by omega)
   have KM27 := As (show ((ji20) : Int).toNat ≤ ((wrap64 (x6_1 + (wrap64 (rd y348 (ji13))))) : Int).toNat from by omega)
   replace q27 := eq_true q27
   refine start_ (n := 17) (S := fun w' => w'.cell? (ad351.add (x6_1).toNat) = some (.int .u8 (rd y348 x6_1)) ∧ Kd.C (Kd.int .u8) w' A27 y354.length y354) (ds := [14, 15]) #[O, O, O, O, O, O, O, O, O, O, O, O, O, O, O, O, O] (by kernel_rfl) rfl rfl ⟨hx353_0, HR357.out⟩ (fun hHeld => ?_); refine with_tabW ipv4_options.tab14 ipv4_options.bits14 (fun HT_ HW_ => ?_)
   generalize wr.drew = w26 at HO_4 HO_5 HB HR357 hx353_0 hHeld ⊢
   refine kP 0 47 #[I, O, O, O, O, O, O, O, O, O, O, O, O, O, O, O, O] ?_ (any_of HT_.out (by kernel_rfl))
   refine kP 1 48 #[I, I, O, O, O, O, O, O, O, O, O, O, O, O, O, O, O] ?_ (any_of HT_.out (by kernel_rfl))
   refine kP 2 49 #[I, I, I, O, O, O, O, O, O, O, O, O, O, O, O, O, O] ?_ (any_of HT_.out (by kernel_rfl))
   refine kP 3 50 #[I, I, I, I, O, O, O, O, O, O, O, O, O, O, O, O, O] ?_ (any_of HT_.out (by kernel_rfl))
   refine kP 6 53 #[I, I, I, I, O, O, I, O, O, O, O, O, O, O, O, O, O] ?_ (any_of HT_.out (by kernel_rfl))
   refine kP 7 54 #[I, I, I, I, O, O, I, I, O, O, O, O, O, O, O, O, O] ?_ (any_of HT_.out (by kernel_rfl))
   refine kP 8 55 #[I, I, I, I, O, O, I, I, I, O, O, O, O, O, O, O, O] ?_ (any_of HT_.out (by kernel_rfl))
   refine kP 9 56 #[I, I, I, I, O, O, I, I, I, I, O, O, O, O, O, O, O] ?_ (any_of HT_.out (by kernel_rfl))
   refine kP 10 57 #[I, I, I, I, O, O, I, I, I, I, I, O, O, O, O, O, O] ?_ (any_of HT_.out (by kernel_rfl))
   refine kP 11 58 #[I, I, I, I, O, O, I, I, I, I, I, I, O, O, O, O, O] ?_ (any_of HT_.out (by kernel_rfl))
   refine take_ (i := 12) (N := some 59) (v := ?_) (a' := ?_) #[I, I, I, I, O, O, I, I, I, I, I, I, I, O, O, O, O] rfl rfl (take_ofW HT_.out HW_.out (by kernel_rfl)) (fun _ _ _ h => h) (Or.inl ⟨by rfl, ?_⟩) hHeld ?_ ?_
   rotate_left
   ·rintro w' ⟨s0, s1⟩
    have hcv := Kd.C_string (P := Tryd.prog) (A := A27) (c := y354.length) Tryd.underlying47 Tryd.underlying5 Tryd.underlying9 s1
    go_simp
    with_reducible rfl
   rotate_left
   ·simp only [Act.put, sA, sZ, sS, i64_w, i32_w]
    rfl
   refine take_ (i := 4) (N := some 51) (v := ?_) (a' := ?_) #[I, I, I, I, I, O, I, I, I, I, I, I, I, O, O, O, O] rfl rfl (take_ofW HT_.out HW_.out (by kernel_rfl)) (fun _ _ _ h => h) (Or.inl ⟨by rfl, ?_⟩) hHeld ?_ ?_
   rotate_left
   ·rintro w' ⟨s0, s1⟩
    go_simp
    with_reducible rfl
   rotate_left
   ·simp only [Act.put, sA, sZ, sS, i64_w, i32_w]
    rfl
   refine kP 5 52 #[I, I, I, I, I, I, I, I, I, I, I, I, I, O, O, O, O] ?_ (any_of HT_.out (by kernel_rfl))
   refine kP 13 60 #[I, I, I, I, I, I, I, I, I, I, I, I, I, I, O, O, O] ?_ (any_of HT_.out (by kernel_rfl))
   refine last_ (i := 14) (N := some 61) #[I, I, I, I, I, I, I, I, I, I, I, I, I, I, I, O, O] rfl rfl (one_of HT_.out (by kernel_rfl)) (by decide) (fun K hK => ?_)
   refine value_ (w1 := ?_) (v := ?_) (by rfl) rfl ?_ ?_
   rotate_left 2
   ·go_simp
    constructor
    ·rfl
    rfl
   refine hK.out _ _ ?_
   clear hK K
   refine nP ?_
   refine last_ (i := 15) (N := some 62) #[I, I, I, I, I, I, I, I, I, I, I, I, I, I, I, I, O] rfl rfl (one_of HT_.out (by kernel_rfl)) (by decide) (fun K hK => ?_)
   refine Kd.R_append_step k125 (w0 := w) w.heap.size (by rfl) (.tmp 47) (.tmp 61) 62 125 (.agg #[(.int .i64 0), (.string ⟨#[]⟩)]) 24 rfl Tryd.underlying62 info125 rfl (by decide) (by omega) u5 x5_1 (⟨wrap64 (rd y348 x6_1), strOfNums y354⟩ : S125) [.int .i64 (wrap64 (rd y348 x6_1)), .string (strOfNums y354)] (fun _ => True) (fun _ => False) rfl rfl ?aP (fun _ hk => hk.elim) ?aF ?aO ?aB ?aS ?aL ?_
   (case aP => exact k125_mkM _ _ _ (⟨wrap64 (rd y348 x6_1), strOfNums y354⟩ : S125))
   (case aB => exact (kB HB.out))
   (case aF => exact (fun _ _ => trivial))
   (case aO => exact (kR HO_5.out))
   (case aS => exact (below_size (kB HB.out)))
   (case aL => have := LMc24.out; omega)
   intro v359 w29 ho hb hg hat
   rw [← Ny358.out] at ho
   replace HB := As (hb)
   replace HO_4 := As (Kd.V_afterv (ok := (fun _ => True)) (by (with_reducible repeat (first | apply Kd.V_alloc | apply Kd.V_drewN | apply Kd.V_drew)); exact Kd.V_mono HO_4.out (fun _ hk => ⟨trivial, hk⟩)) hg hat)
   have HO360 := As (ho)
   clear HO_5
   clear ho hb hg hat
   refine hK.out _ _ ?_
   clear hK K
   refine nP ?_
   refine kP 16 5 #[I, I, I, I, I, I, I, I, I, I, I, I, I, I, I, I, I] ?_ (any_of HT_.out (by kernel_rfl))
   refine done_ (done_of HT_.out (by kernel_rfl)) ?_
   (try go_wp2)
   repeat ((first | (refine scope_plain ?_ ?hg_; case hg_ => exact fun _ _ _ h_ => h_) | go_step3); go_wp2)
   go_roundg k1
   case measure => have := HK1.out; omega
   case rel => exact ⟨(y358), (wrap64 (x6_1 + (wrap64 (rd y348 (ji13))))), (by first | rfl | (simp; done) | (simp only [← hji13] <;> (first | rfl | simp)) | (simp [*]; done)), H', ⟨by have := HK1.out; omega⟩, ⟨by (with_reducible repeat (first | apply Kd.V_alloc | apply Kd.V_drewN | apply Kd.V_drew)); exact Kd.V_mono HO_4.out (fun _ hk => hk.2)⟩, ⟨by (with_reducible repeat (first | apply Kd.R_alloc | apply Kd.R_drewN | apply Kd.R_drew)); exact HO360.out⟩, ⟨kB HB.out⟩⟩
  rw [if_neg c5] at H
  have c5b0 : decide (x6_1 < (y348.length : Int)) = false := decide_eq_false c5
  clear c5
  simp only [Option.some.injEq, Prod.mk.injEq] at H
  obtain ⟨rfl, rfl⟩ := H
  obtain ⟨Ao30, co30, eo30⟩ := Kd.V_slice HO_4.out
  subst eo30
  (try go_wp2)
  repeat ((first | (refine scope_plain ?_ ?hg_; case hg_ => exact fun _ _ _ h_ => h_) | go_step3); go_wp2)
  go_ret2
  exact ⟨_, kE, by (with_reducible repeat (first | apply Kd.R_alloc | apply Kd.R_drewN | apply Kd.R_drew)); exact HO_5.out, by exact kB HB.out⟩

end Go.Proofs.YtocobalkikkhlaaDoor.X
-- short
-- short2
