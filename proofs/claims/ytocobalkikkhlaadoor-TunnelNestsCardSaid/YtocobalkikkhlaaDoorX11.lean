/- Functions and their walks, printed by xprint.py. -/
import Derived.Test.YtocobalkikkhlaaDoorX0
import Derived.Test.YtocobalkikkhlaaDoorX4
namespace Go.Proofs.YtocobalkikkhlaaDoor.X
open Go.RowKit Go.Proofs.YtocobalkikkhlaaDoorW.PrintWords Go.Proofs.YtocobalkikkhlaaDoorW.PrintLast Go.Proofs.YtocobalkikkhlaaDoorW.PrintMore
attribute [local go_sem] max2_int min2_int max_two min_two max_three min_three max_four min_four   -- for this text's walks alone
set_option linter.unusedVariables false
set_option linter.unusedSimpArgs false

/-! ### ipv4_outside: function 98 -/
def ipv4_outside.f (a0 : Int) (a1 : Int) : Option (Bool) := if a0 < 0 then (some true) else (some (decide (a0 > a1)))
set_option maxHeartbeats 8000000 in
set_option maxRecDepth 100000 in
theorem ipv4_outside.calls (a0 : Int) (a1 : Int) (r : Bool) (w : World) (h : ipv4_outside.f a0 a1 = some r) :
  Calls Tryd.prog 98 #[.int .i64 a0, .int .i64 a1] w fun e w' => e = .returned (.bool r) ∧ Drawn0 w w' := by
 have H : (if a0 < 0 then (some true) else (some (decide (a0 > a1)))) = some r := h
 clear h
 by_cases c3 : a0 < 0
 ·rw [if_pos c3] at H
  have c3b0 : decide (a0 < 0) = true := decide_eq_true c3
  clear c3
  obtain rfl := Option.some.inj H
  go_enter Tryd.func98, Tryd.ntmps98
  go_wp2
  go_ret
  exact ⟨by first | rfl | (simp; done) | (simp [*]; done), by repeat (first | exact Drawn0.refl _ | apply Drawn0.step)⟩
 rw [if_neg c3] at H
 have c3b0 : decide (a0 < 0) = false := decide_eq_false c3
 clear c3
 obtain rfl := Option.some.inj H
 go_enter Tryd.func98, Tryd.ntmps98
 go_wp2
 go_ret
 exact ⟨by first | rfl | (simp; done) | (simp [*]; done), by repeat (first | exact Drawn0.refl _ | apply Drawn0.step)⟩

/-! ### ipv4_host: function 99 -/
def ipv4_host.f (a0_0 : Bool) (a0_1 : Int) (a0_2 : Int) : Option (Bool) := if a0_0 = true then (some false) else ((address_Valid.f a0_0 a0_1 a0_2).bind fun t314 => (some t314))
set_option maxHeartbeats 8000000 in
set_option maxRecDepth 100000 in
theorem ipv4_host.calls (a0_0 : Bool) (a0_1 : Int) (a0_2 : Int) (r : Bool) (w : World) (h : ipv4_host.f a0_0 a0_1 a0_2 = some r) :
  Calls Tryd.prog 99 #[.agg #[.bool a0_0, .int .u64 a0_1, .int .u64 a0_2]] w fun e w' => e = .returned (.bool r) ∧ Below w.heap.size w w' := by
 have hu24 := Tryd.underlying24
 have HB := As (Below.refl w.heap.size w)
 have H : (if a0_0 = true then (some false) else ((address_Valid.f a0_0 a0_1 a0_2).bind fun t314 => (some t314))) = some r := h
 clear h
 by_cases c2 : a0_0 = true
 ·subst c2
  rw [if_pos rfl] at H
  obtain rfl := Option.some.inj H
  go_enter Tryd.func99, Tryd.ntmps99
  go_wp2_with (first | ((with_reducible refine gate_dst (N := 1) rfl ?_); refine box_event rfl (N := 1) rfl (cs := #[.bool true, .int .u64 a0_1, .int .u64 a0_2]) (t := 24) kG ?_; intro gb313 hg w3 hbox hb; have BK313 := As (hbox); have GW313 := As (gS hg (below_size (kB HB.out))); have GE313 := As (gS hg (below_size (kB HB.out))); replace HB := As (below_step (kB HB.out) hb); clear hb hbox hg; have hcz4_0 := cells_3 BK313.out; have hfz4_0 := fun j_ => blk_frozen BK313.out j_))
  go_ret
  exact ⟨kE, by exact kB1 HB.out GE313.out⟩
 replace c2 := Bool.eq_false_iff.mpr c2
 subst c2
 rw [if_neg (show ¬ (false = true) by decide)] at H
 replace H := bS H
 obtain ⟨t314, A5, H⟩ := H
 obtain rfl := Option.some.inj H
 go_enter Tryd.func99, Tryd.ntmps99
 go_wp2_with (first | ((with_reducible refine gate_dst (N := 1) rfl ?_); refine box_event rfl (N := 1) rfl (cs := #[.bool false, .int .u64 a0_1, .int .u64 a0_2]) (t := 24) kG ?_; intro gb313 hg w6 hbox hb; have BK313 := As (hbox); have GW313 := As (gS hg (below_size (kB HB.out))); have GE313 := As (gS hg (below_size (kB HB.out))); replace HB := As (below_step (kB HB.out) hb); clear hb hbox hg; have hcz7_0 := cells_3 BK313.out; have hfz7_0 := fun j_ => blk_frozen BK313.out j_) | (go_at_call 53; (with_reducible refine (address_Valid.calls false a0_1 a0_2 t314 _ A5.out).mono ?_); rintro e w8 ⟨rfl, hb⟩; replace BK313 := As (blk_below (kb BK313.out) hb); replace HB := As (below_step (kB1 HB.out GE313.out) hb); (try clear hb)))
 go_ret
 exact ⟨kE, by exact kB1 HB.out GE313.out⟩

/-! ### api_Option_100: function 100, and function 116, for the predicate 101: a Kind below 2 or above 255 -/
def badKind (o : S125) : Bool := decide (o.f0 < 2 ∨ 255 < o.f0)
set_option maxHeartbeats 4000000 in
set_option maxRecDepth 100000 in
theorem api_Option_100.pred (a : Int) (s : ByteArray) (w : World) : Calls Tryd.prog 101 #[.agg #[.int .i64 a, .string s]] w fun e w' => e = .returned (.bool (decide (a < 2 ∨ 255 < a))) ∧ Below w.heap.size w w' := by
  have hu := Tryd.underlying125
  by_cases c : a < 2
  · have cb := decide_eq_true c
    rw [decide_eq_true (show a < 2 ∨ 255 < a from .inl c)]
    clear c
    go_enter Tryd.func101, Tryd.ntmps101
    go_wp2
    go_ret
    exact ⟨rfl, below_alloc (Below.refl _ _) _⟩
  have cb := decide_eq_false c
  by_cases d : 255 < a
  · have db := decide_eq_true d
    rw [decide_eq_true (show a < 2 ∨ 255 < a from .inr d)]
    clear c d
    go_enter Tryd.func101, Tryd.ntmps101
    go_wp2
    go_ret
    exact ⟨rfl, below_alloc (Below.refl _ _) _⟩
  have db := decide_eq_false d
  rw [decide_eq_false (show ¬ (a < 2 ∨ 255 < a) from fun z => z.elim c d)]
  clear c d
  go_enter Tryd.func101, Tryd.ntmps101
  go_wp2
  go_ret
  exact ⟨rfl, below_alloc (Below.refl _ _) _⟩
def api_Option_100.l0 : Nat → List S125 → Int → Option Int
  | 0, _, _ => none
  | k + 1, l, i => if i < (l.length : Int) then (if 0 ≤ i then (if badKind (rd_T125 l i) = true then some i else api_Option_100.l0 k l (wrap64 (i + 1))) else none) else some (-1)
def api_Option_100.f (k : Nat) (l : List S125) : Option Bool := (api_Option_100.l0 k l 0).bind fun i => some (decide (i ≥ 0))
theorem api_Option_100.mono_l : ∀ k, (∀ l i, LeO (api_Option_100.l0 k l i) (api_Option_100.l0 (k + 1) l i))
  | 0 => fun _ _ r h => by simp [api_Option_100.l0] at h
  | k + 1 => by
    have ih0 := api_Option_100.mono_l k
    intro l i
    unfold api_Option_100.l0
    exact LeO.ite (LeO.ite (LeO.ite (LeO.refl _) (ih0 _ _)) (LeO.none _)) (LeO.refl _)
theorem api_Option_100.mono : ∀ l k, LeO (api_Option_100.f k l) (api_Option_100.f (k + 1) l) := fun l k => LeO.bind (api_Option_100.mono_l k l 0) (fun _ => LeO.refl _)
set_option maxHeartbeats 8000000 in
set_option maxRecDepth 100000 in
theorem api_Option_100.index (k : Nat) (A0 : Option Addr) (c0 : Nat) (l0 : List S125) (r : Int) (w : World) (hr0 : Kd.C k125 w A0 l0.length l0) (hc0 : l0.length ≤ c0) (h : api_Option_100.l0 k l0 0 = some r) :
    Calls Tryd.prog 116 #[.slice A0 l0.length c0, .func (.func 101) #[] #[]] w fun e w' => e = .returned (.int .i64 r) ∧ Below w.heap.size w w' := by
  have HR0 := As hr0
  have HC0 := As hc0
  clear hr0 hc0
  have H' := As h
  clear h
  have HB0 := As (Below.refl w.heap.size w)
  go_enter Tryd.func116, Tryd.ntmps116
  go_wp2
  go_loopg [8] k (fun kq v8 w' => ∃ (x : Int), v8 = .int .i64 x ∧ Aside0 (api_Option_100.l0 kq l0 x = some r) ∧ Aside0 (kq ≤ k) ∧ Aside0 (Below w.heap.size w w'))
  case atStart => exact ⟨0, rfl, H', ⟨Nat.le_refl _⟩, ⟨by repeat (first | exact HB0.out | apply below_drew1 | apply below_alloc | apply pw_below_drewN)⟩⟩
  clear H' HB0
  obtain ⟨x, rfl, HA, HK1, HB⟩ := hrel
  cases gk with
  | zero => exact absurd HA.out (by simp [api_Option_100.l0])
  | succ k1 =>
    have H := HA.out
    clear HA
    simp only [api_Option_100.l0] at H
    by_cases c2 : x < (l0.length : Int)
    · rw [if_pos c2] at H
      have c2b0 : decide (x < (l0.length : Int)) = true := decide_eq_true c2
      by_cases c3 : 0 ≤ x
      · rw [if_pos c3] at H
        have c3b0 : decide (0 ≤ x) = true := decide_eq_true c3
        have q1 := eq_true c2
        have q2 := eq_true c3
        obtain ⟨ad, e_, hx0, hx1⟩ := at_T125 (Kd.C_below HR0.out HB.out) x c3 c2
        cases e_
        by_cases c4 : badKind (rd_T125 l0 x) = true
        · rw [if_pos c4] at H
          have c4b : decide ((rd_T125 l0 x).f0 < 2 ∨ 255 < (rd_T125 l0 x).f0) = true := c4
          obtain rfl := Option.some.inj H
          clear c2 c3 c4
          go_wp2_with (first | (go_at_call 101; refine (api_Option_100.pred _ _ _).mono ?_; rintro e w2 ⟨rfl, hb⟩; rw [c4b]))
          all_goals go_ret
          all_goals exact ⟨rfl, by repeat (first | exact below_step HB.out hb | apply below_drew1)⟩
        rw [if_neg c4] at H
        have c4b : decide ((rd_T125 l0 x).f0 < 2 ∨ 255 < (rd_T125 l0 x).f0) = false := Bool.eq_false_iff.mpr c4
        have H' := As H
        clear H c2 c3 c4
        go_wp2_with (first | (go_at_call 101; refine (api_Option_100.pred _ _ _).mono ?_; rintro e w2 ⟨rfl, hb⟩; rw [c4b]))
        go_roundg k1
        case measure => have := HK1.out; omega
        case rel => exact ⟨wrap64 (x + 1), rfl, H', ⟨by have := HK1.out; omega⟩, ⟨by repeat (first | exact below_step HB.out hb | apply below_drew1)⟩⟩
      rw [if_neg c3] at H
      exact absurd H (by simp)
    rw [if_neg c2] at H
    have c2b0 : decide (x < (l0.length : Int)) = false := decide_eq_false c2
    obtain rfl := Option.some.inj H
    go_wp2
    go_ret
    exact ⟨rfl, by repeat (first | exact HB.out | apply below_drew1)⟩
set_option maxHeartbeats 8000000 in
set_option maxRecDepth 100000 in
theorem api_Option_100.calls (k : Nat) (A0 : Option Addr) (c0 : Nat) (l0 : List S125) (r : Bool) (w : World) (hr0 : Kd.C k125 w A0 l0.length l0) (hc0 : l0.length ≤ c0) (h : api_Option_100.f k l0 = some r) :
    Calls Tryd.prog 100 #[.slice A0 l0.length c0, .func (.func 101) #[] #[]] w fun e w' => e = .returned (.bool r) ∧ Below w.heap.size w w' := by
  obtain ⟨i, h1, h2⟩ := Option.bind_eq_some_iff.mp h
  obtain rfl := Option.some.inj h2
  have HR0 := As hr0
  have HC0 := As hc0
  have H1 := As h1
  clear hr0 hc0 h h1 h2
  go_enter Tryd.func100, Tryd.ntmps100
  go_wp2_with (first | (go_at_call 116; refine (api_Option_100.index k A0 c0 l0 i _ (Kd.C_below HR0.out (by repeat (first | exact Below.refl _ _ | apply below_drew1))) HC0.out H1.out).mono ?_; rintro e w2 ⟨rfl, hb⟩))
  go_ret
  exact ⟨rfl, by repeat (first | exact hb | apply below_drew1 | exact below_step (Below.refl _ _) hb)⟩

/-! ### ipv4_inRange: function 62 -/
def ipv4_inRange.j0 : Nat → Bool → Int → Int → Int → Int → Bool → Bool → Int → Bool → Int → Int → Bool → Int → Int → List (S125) → ByteArray → Option (Bool)
 | 0, _, _, _, _, _, _, _, _, _, _, _, _, _, _, _, _ => none
 | k + 1, x31, x316000, x316001, x316002, x316003, x316004, x316005, x316006, x316007, x316008, x316009, x316010, x316011, x316012, x316013, x316014 => if x31 = true then (some false) else ((ipv4_host.f x316007 x316008 x316009).bind fun t321 => (if t321 = true then ((ipv4_host.f x316010 x316011 x316012).bind fun t322 => (if t322 = true then ((api_Option_100.f k x316013).bind fun t323 => (some (!t323))) else (some false))) else (some false)))
def ipv4_inRange.f (k : Nat) (b0 : Int) (b1 : Int) (b2 : Int) (b3 : Int) (b4 : Bool) (b5 : Bool) (b6 : Int) (b7 : Bool) (b8 : Int) (b9 : Int) (b10 : Bool) (b11 : Int) (b12 : Int) (l0_13 : List (S125)) (b14 : ByteArray) : Option (Bool) := (ipv4_outside.f b0 255).bind fun t316 => (if t316 = true then (ipv4_inRange.j0 k true b0 b1 b2 b3 b4 b5 b6 b7 b8 b9 b10 b11 b12 l0_13 b14) else ((ipv4_outside.f b2 255).bind fun t317 => (if t317 = true then (ipv4_inRange.j0 k true b0 b1 b2 b3 b4 b5 b6 b7 b8 b9 b10 b11 b12 l0_13 b14) else ((ipv4_outside.f b3 255).bind fun t318 => (if t318 = true then (ipv4_inRange.j0 k true b0 b1 b2 b3 b4 b5 b6 b7 b8 b9 b10 b11 b12 l0_13 b14) else ((ipv4_outside.f b1 65535).bind fun t319 => (if t319 = true then (ipv4_inRange.j0 k true b0 b1 b2 b3 b4 b5 b6 b7 b8 b9 b10 b11 b12 l0_13 b14) else ((ipv4_outside.f b6 65528).bind fun t320 => (if t320 = true then (ipv4_inRange.j0 k true b0 b1 b2 b3 b4 b5 b6 b7 b8 b9 b10 b11 b12 l0_13 b14) else (ipv4_inRange.j0 k ((Int.tmod b6 8) != 0) b0 b1 b2 b3 b4 b5 b6 b7 b8 b9 b10 b11 b12 l0_13 b14))))))))))
theorem ipv4_inRange.mono_l : ∀ k, (∀ y0 y1 y2 y3 y4 y5 y6 y7 y8 y9 y10 y11 y12 y13 y14 y15, LeO (ipv4_inRange.j0 k y0 y1 y2 y3 y4 y5 y6 y7 y8 y9 y10 y11 y12 y13 y14 y15) (ipv4_inRange.j0 (k + 1) y0 y1 y2 y3 y4 y5 y6 y7 y8 y9 y10 y11 y12 y13 y14 y15))
 | 0 => fun _ _ _ _ _ _ _ _ _ _ _ _ _ _ _ _ r h => by simp [ipv4_inRange.j0] at h
 | k + 1 => by
  have ih0 := ipv4_inRange.mono_l k
  intro y0 y1 y2 y3 y4 y5 y6 y7 y8 y9 y10 y11 y12 y13 y14 y15
  unfold ipv4_inRange.j0
  repeat' first | with_reducible first | apply ih0 | apply api_Option_100.mono | apply LeO.refl | apply LeO.none | refine LeO.ite ?_ ?_ | refine LeO.bind ?_ (fun _ => ?_)
theorem ipv4_inRange.mono : ∀ a0 a1 a2 a3 a4 a5 a6 a7 a8 a9 a10 a11 a12 a13 a14 k, LeO (ipv4_inRange.f k a0 a1 a2 a3 a4 a5 a6 a7 a8 a9 a10 a11 a12 a13 a14) (ipv4_inRange.f (k + 1) a0 a1 a2 a3 a4 a5 a6 a7 a8 a9 a10 a11 a12 a13 a14) := by
 intro a0 a1 a2 a3 a4 a5 a6 a7 a8 a9 a10 a11 a12 a13 a14 k
 have ih0 := ipv4_inRange.mono_l k
 unfold ipv4_inRange.f
 repeat' first | with_reducible first | apply ih0 | apply api_Option_100.mono | apply LeO.refl | apply LeO.none | refine LeO.ite ?_ ?_ | refine LeO.bind ?_ (fun _ => ?_)
set_option maxHeartbeats 8000000 in
set_option maxRecDepth 100000 in
theorem ipv4_inRange.calls (k : Nat) (b0 : Int) (b1 : Int) (b2 : Int) (b3 : Int) (b4 : Bool) (b5 : Bool) (b6 : Int) (b7 : Bool) (b8 : Int) (b9 : Int) (b10 : Bool) (b11 : Int) (b12 : Int) (A0_13 : Option Addr) (c0_13 : Nat) (l0_13 : List (S125)) (b14 : ByteArray) (r : Bool) (w : World) (hr0_13 : Kd.C k125 w A0_13 l0_13.length l0_13) (hc0_13 : l0_13.length ≤ c0_13) (h : ipv4_inRange.f k b0 b1 b2 b3 b4 b5 b6 b7 b8 b9 b10 b11 b12 l0_13 b14 = some r) :
  Calls Tryd.prog 62 #[.agg #[.int .i64 b0, .int .i64 b1, .int .i64 b2, .int .i64 b3, .bool b4, .bool b5, .int .i64 b6, .bool b7, .int .u64 b8, .int .u64 b9, .bool b10, .int .u64 b11, .int .u64 b12, .slice A0_13 l0_13.length c0_13, .string b14]] w fun e w' => e = .returned (.bool r) ∧ Below w.heap.size w w' := by
 have hu64 := Tryd.underlying64
 have hu24 := Tryd.underlying24
 have HR0_13 := As hr0_13
 have HC0_13 := As hc0_13
 clear hr0_13 hc0_13
 have HB := As (Below.refl w.heap.size w)
 have H : ((ipv4_outside.f b0 255).bind fun t316 => (if t316 = true then (ipv4_inRange.j0 k true b0 b1 b2 b3 b4 b5 b6 b7 b8 b9 b10 b11 b12 l0_13 b14) else ((ipv4_outside.f b2 255).bind fun t317 => (if t317 = true then (ipv4_inRange.j0 k true b0 b1 b2 b3 b4 b5 b6 b7 b8 b9 b10 b11 b12 l0_13 b14) else ((ipv4_outside.f b3 255).bind fun t318 => (if t318 = true then (ipv4_inRange.j0 k true b0 b1 b2 b3 b4 b5 b6 b7 b8 b9 b10 b11 b12 l0_13 b14) else ((ipv4_outside.f b1 65535).bind fun t319 => (if t319 = true then (ipv4_inRange.j0 k true b0 b1 b2 b3 b4 b5 b6 b7 b8 b9 b10 b11 b12 l0_13 b14) else ((ipv4_outside.f b6 65528).bind fun t320 => (if t320 = true then (ipv4_inRange.j0 k true b0 b1 b2 b3 b4 b5 b6 b7 b8 b9 b10 b11 b12 l0_13 b14) else (ipv4_inRange.j0 k ((Int.tmod b6 8) != 0) b0 b1 b2 b3 b4 b5 b6 b7 b8 b9 b10 b11 b12 l0_13 b14))))))))))) = some r := h
 clear h
 have HC2 := As H
 clear H
 go_enter Tryd.func62, Tryd.ntmps62
 go_upto_region 1 with (first | ((with_reducible refine gate_dst (N := 1) rfl ?_); refine box_event rfl (N := 1) rfl (cs := #[.int .i64 b0, .int .i64 b1, .int .i64 b2, .int .i64 b3, .bool b4, .bool b5, .int .i64 b6, .bool b7, .int .u64 b8, .int .u64 b9, .bool b10, .int .u64 b11, .int .u64 b12, .slice A0_13 l0_13.length c0_13, .string b14]) (t := 64) kG ?_; intro gb315 hg w3 hbox hb; have BK315 := As (hbox); have GW315 := As (gS hg (below_size (kB HB.out))); have GE315 := As (gS hg (below_size (kB HB.out))); replace HB := As (below_step (kB HB.out) hb); clear hb hbox hg))
 (try simp only [Act.put, sA, sZ, sS])
 go_cut [31] (fun v31 wc => ∃ (kq : Nat) (x31_1 : Bool), v31 = .bool x31_1 ∧ Aside0 (ipv4_inRange.j0 kq x31_1 b0 b1 b2 b3 b4 b5 b6 b7 b8 b9 b10 b11 b12 l0_13 b14 = some r) ∧ Aside0 (kq ≤ k) ∧ Aside0 (wc.heap[gb315]? = some (.cells #[.int .i64 b0, .int .i64 b1, .int .i64 b2, .int .i64 b3, .bool b4, .bool b5, .int .i64 b6, .bool b7, .int .u64 b8, .int .u64 b9, .bool b10, .int .u64 b11, .int .u64 b12, (.slice A0_13 l0_13.length c0_13), .string b14] 64 (0, 0))) ∧ Aside0 (Below w.heap.size w wc))
 case first =>
  have H := HC2.out
  clear HC2
  replace H := bS H
  obtain ⟨t316, A4, H⟩ := H
  by_cases c5 : t316 = true
  ·subst c5
   rw [if_pos rfl] at H
   have H' := As H
   clear H
   have hcz6_0 := cells_15 BK315.out
   have hfz6_0 := fun j_ => blk_frozen BK315.out j_
   go_wp2_with (first | ((with_reducible refine gate_callee (f := 98) rfl ?_); refine goesL_ (some 5) rfl rfl Tryd.func98 (by kernel_rfl) rfl #[.int .i64 b0, .int .i64 255] rfl kA ?_; (with_reducible refine (ipv4_outside.calls b0 255 true _ A4.out).mono ?_); rintro e w' ⟨rfl, ⟨nd, rfl⟩⟩; refine ⟨_, rfl, ?_⟩))
   go_meet
   case rel => exact ⟨_, (true), kS, H', ⟨by first | omega | exact Nat.le_refl _⟩, ⟨kb BK315.out⟩, ⟨kB1 HB.out GE315.out⟩⟩
  replace c5 := Bool.eq_false_iff.mpr c5
  subst c5
  rw [if_neg (show ¬ (false = true) by decide)] at H
  replace H := bS H
  obtain ⟨t317, A7, H⟩ := H
  by_cases c8 : t317 = true
  ·subst c8
   rw [if_pos rfl] at H
   have H' := As H
   clear H
   have hcz9_0 := cells_15 BK315.out
   have hfz9_0 := fun j_ => blk_frozen BK315.out j_
   go_wp2_with (first | ((with_reducible refine gate_callee (f := 98) rfl ?_); refine goesL_ (some 5) rfl rfl Tryd.func98 (by kernel_rfl) rfl #[.int .i64 b0, .int .i64 255] rfl kA ?_; (with_reducible refine (ipv4_outside.calls b0 255 false _ A4.out).mono ?_); rintro e w' ⟨rfl, ⟨nd, rfl⟩⟩; refine ⟨_, rfl, ?_⟩) | (go_at_call 98; (with_reducible refine (ipv4_outside.calls b2 255 true _ A7.out).mono ?_); rintro e w' ⟨rfl, ⟨nd, rfl⟩⟩))
   go_meet
   case rel => exact ⟨_, (true), kS, H', ⟨by first | omega | exact Nat.le_refl _⟩, ⟨kb BK315.out⟩, ⟨kB1 HB.out GE315.out⟩⟩
  replace c8 := Bool.eq_false_iff.mpr c8
  subst c8
  rw [if_neg (show ¬ (false = true) by decide)] at H
  replace H := bS H
  obtain ⟨t318, A10, H⟩ := H
  by_cases c11 : t318 = true
  ·subst c11
   rw [if_pos rfl] at H
   have H' := As H
   clear H
   have hcz12_0 := cells_15 BK315.out
   have hfz12_0 := fun j_ => blk_frozen BK315.out j_
   go_wp2_with (first | ((with_reducible refine gate_callee (f := 98) rfl ?_); refine goesL_ (some 5) rfl rfl Tryd.func98 (by kernel_rfl) rfl #[.int .i64 b0, .int .i64 255] rfl kA ?_; (with_reducible refine (ipv4_outside.calls b0 255 false _ A4.out).mono ?_); rintro e w' ⟨rfl, ⟨nd, rfl⟩⟩; refine ⟨_, rfl, ?_⟩) | (go_at_call 98; (with_reducible refine (ipv4_outside.calls b2 255 false _ A7.out).mono ?_); rintro e w' ⟨rfl, ⟨nd, rfl⟩⟩) | (go_at_call 98; (with_reducible refine (ipv4_outside.calls b3 255 true _ A10.out).mono ?_); rintro e w' ⟨rfl, ⟨nd, rfl⟩⟩))
   go_meet
   case rel => exact ⟨_, (true), kS, H', ⟨by first | omega | exact Nat.le_refl _⟩, ⟨kb BK315.out⟩, ⟨kB1 HB.out GE315.out⟩⟩
  replace c11 := Bool.eq_false_iff.mpr c11
  subst c11
  rw [if_neg (show ¬ (false = true) by decide)] at H
  replace H := bS H
  obtain ⟨t319, A13, H⟩ := H
  by_cases c14 : t319 = true
  ·subst c14
   rw [if_pos rfl] at H
   have H' := As H
   clear H
   have hcz15_0 := cells_15 BK315.out
   have hfz15_0 := fun j_ => blk_frozen BK315.out j_
   go_wp2_with (first | ((with_reducible refine gate_callee (f := 98) rfl ?_); refine goesL_ (some 5) rfl rfl Tryd.func98 (by kernel_rfl) rfl #[.int .i64 b0, .int .i64 255] rfl kA ?_; (with_reducible refine (ipv4_outside.calls b0 255 false _ A4.out).mono ?_); rintro e w' ⟨rfl, ⟨nd, rfl⟩⟩; refine ⟨_, rfl, ?_⟩) | (go_at_call 98; (with_reducible refine (ipv4_outside.calls b2 255 false _ A7.out).mono ?_); rintro e w' ⟨rfl, ⟨nd, rfl⟩⟩) | (go_at_call 98; (with_reducible refine (ipv4_outside.calls b3 255 false _ A10.out).mono ?_); rintro e w' ⟨rfl, ⟨nd, rfl⟩⟩) | (go_at_call 98; (with_reducible refine (ipv4_outside.calls b1 65535 true _ A13.out).mono ?_); rintro e w' ⟨rfl, ⟨nd, rfl⟩⟩))
   go_meet
   case rel => exact ⟨_, (true), kS, H', ⟨by first | omega | exact Nat.le_refl _⟩, ⟨kb BK315.out⟩, ⟨kB1 HB.out GE315.out⟩⟩
  replace c14 := Bool.eq_false_iff.mpr c14
  subst c14
  rw [if_neg (show ¬ (false = true) by decide)] at H
  replace H := bS H
  obtain ⟨t320, A16, H⟩ := H
  by_cases c17 : t320 = true
  ·subst c17
   rw [if_pos rfl] at H
   have H' := As H
   clear H
   have hcz18_0 := cells_15 BK315.out
   have hfz18_0 := fun j_ => blk_frozen BK315.out j_
   go_wp2_with (first | ((with_reducible refine gate_callee (f := 98) rfl ?_); refine goesL_ (some 5) rfl rfl Tryd.func98 (by kernel_rfl) rfl #[.int .i64 b0, .int .i64 255] rfl kA ?_; (with_reducible refine (ipv4_outside.calls b0 255 false _ A4.out).mono ?_); rintro e w' ⟨rfl, ⟨nd, rfl⟩⟩; refine ⟨_, rfl, ?_⟩) | (go_at_call 98; (with_reducible refine (ipv4_outside.calls b2 255 false _ A7.out).mono ?_); rintro e w' ⟨rfl, ⟨nd, rfl⟩⟩) | (go_at_call 98; (with_reducible refine (ipv4_outside.calls b3 255 false _ A10.out).mono ?_); rintro e w' ⟨rfl, ⟨nd, rfl⟩⟩) | (go_at_call 98; (with_reducible refine (ipv4_outside.calls b1 65535 false _ A13.out).mono ?_); rintro e w' ⟨rfl, ⟨nd, rfl⟩⟩) | (go_at_call 98; (with_reducible refine (ipv4_outside.calls b6 65528 true _ A16.out).mono ?_); rintro e w' ⟨rfl, ⟨nd, rfl⟩⟩))
   go_meet
   case rel => exact ⟨_, (true), kS, H', ⟨by first | omega | exact Nat.le_refl _⟩, ⟨kb BK315.out⟩, ⟨kB1 HB.out GE315.out⟩⟩
  replace c17 := Bool.eq_false_iff.mpr c17
  subst c17
  rw [if_neg (show ¬ (false = true) by decide)] at H
  have H' := As H
  clear H
  have hcz19_0 := cells_15 BK315.out
  have hfz19_0 := fun j_ => blk_frozen BK315.out j_
  go_wp2_with (first | ((with_reducible refine gate_callee (f := 98) rfl ?_); refine goesL_ (some 5) rfl rfl Tryd.func98 (by kernel_rfl) rfl #[.int .i64 b0, .int .i64 255] rfl kA ?_; (with_reducible refine (ipv4_outside.calls b0 255 false _ A4.out).mono ?_); rintro e w' ⟨rfl, ⟨nd, rfl⟩⟩; refine ⟨_, rfl, ?_⟩) | (go_at_call 98; (with_reducible refine (ipv4_outside.calls b2 255 false _ A7.out).mono ?_); rintro e w' ⟨rfl, ⟨nd, rfl⟩⟩) | (go_at_call 98; (with_reducible refine (ipv4_outside.calls b3 255 false _ A10.out).mono ?_); rintro e w' ⟨rfl, ⟨nd, rfl⟩⟩) | (go_at_call 98; (with_reducible refine (ipv4_outside.calls b1 65535 false _ A13.out).mono ?_); rintro e w' ⟨rfl, ⟨nd, rfl⟩⟩) | (go_at_call 98; (with_reducible refine (ipv4_outside.calls b6 65528 false _ A16.out).mono ?_); rintro e w' ⟨rfl, ⟨nd, rfl⟩⟩))
  go_meet
  case rel => exact ⟨_, (((Int.tmod b6 8) != 0)), kS, H', ⟨by first | omega | exact Nat.le_refl _⟩, ⟨kb BK315.out⟩, ⟨kB1 HB.out GE315.out⟩⟩
 clear HC2
 obtain ⟨kq, x31_1, rfl, HA, HJ1, BK315, HB⟩ := hcut
 cases kq with
 | zero => exact absurd HA.out (by simp [ipv4_inRange.j0])
 | succ kj1 =>
  have H := HA.out
  clear HA
  simp only [ipv4_inRange.j0] at H
  by_cases c20 : x31_1 = true
  ·subst c20
   rw [if_pos rfl] at H
   obtain rfl := Option.some.inj H
   go_wp2
   go_ret
   exact ⟨kE, by exact kB1 HB.out GE315.out⟩
  replace c20 := Bool.eq_false_iff.mpr c20
  subst c20
  rw [if_neg (show ¬ (false = true) by decide)] at H
  replace H := bS H
  obtain ⟨t321, A21, H⟩ := H
  by_cases c22 : t321 = true
  ·subst c22
   rw [if_pos rfl] at H
   replace H := bS H
   obtain ⟨t322, A23, H⟩ := H
   by_cases c24 : t322 = true
   ·subst c24
    rw [if_pos rfl] at H
    replace H := bS H
    obtain ⟨t323, A25, H⟩ := H
    obtain rfl := Option.some.inj H
    have hcz26_0 := cells_15 BK315.out
    have hfz26_0 := fun j_ => blk_frozen BK315.out j_
    go_wp2_with (first | ((with_reducible refine gate_callee (f := 99) rfl ?_); refine goesL_ (some 34) rfl rfl Tryd.func99 (by kernel_rfl) rfl #[.agg #[.bool b7, .int .u64 b8, .int .u64 b9]] rfl kA ?_; (with_reducible refine (ipv4_host.calls b7 b8 b9 true _ A21.out).mono ?_); rintro e w27 ⟨rfl, hb⟩; refine ⟨_, rfl, ?_⟩; replace BK315 := As (blk_below (kb BK315.out) hb); replace HB := As (below_step (kB1 HB.out GE315.out) hb); (try clear hb); have hcz28_0 := cells_15 BK315.out; have hfz28_0 := fun j_ => blk_frozen BK315.out j_) | (go_at_call 99; (with_reducible refine (ipv4_host.calls b10 b11 b12 true _ A23.out).mono ?_); rintro e w29 ⟨rfl, hb⟩; replace BK315 := As (blk_below (kb BK315.out) hb); replace HB := As (below_step (kB1 HB.out GE315.out) hb); (try clear hb); have hcz30_0 := cells_15 BK315.out; have hfz30_0 := fun j_ => blk_frozen BK315.out j_) | (go_at_call 100; (with_reducible refine (api_Option_100.calls kj1 _ _ l0_13 t323 _ ?side1 ?side2 A25.out).mono ?_); (case side1 => repeat (first | exact (Kd.C_below HR0_13.out HB.out) | (with_reducible refine Kd.C_alloc ?_ _) | (with_reducible refine Kd.C_drewN ?_ _) | (with_reducible refine Kd.C_drew ?_))); (case side2 => exact HC0_13.out); rintro e w31 ⟨rfl, hb⟩; replace BK315 := As (blk_below (kb BK315.out) hb); replace HB := As (below_step (kB1 HB.out GE315.out) hb); (try clear hb)))
    go_ret
    exact ⟨kE, by exact kB1 HB.out GE315.out⟩
   replace c24 := Bool.eq_false_iff.mpr c24
   subst c24
   rw [if_neg (show ¬ (false = true) by decide)] at H
   obtain rfl := Option.some.inj H
   have hcz32_0 := cells_15 BK315.out
   have hfz32_0 := fun j_ => blk_frozen BK315.out j_
   go_wp2_with (first | ((with_reducible refine gate_callee (f := 99) rfl ?_); refine goesL_ (some 34) rfl rfl Tryd.func99 (by kernel_rfl) rfl #[.agg #[.bool b7, .int .u64 b8, .int .u64 b9]] rfl kA ?_; (with_reducible refine (ipv4_host.calls b7 b8 b9 true _ A21.out).mono ?_); rintro e w33 ⟨rfl, hb⟩; refine ⟨_, rfl, ?_⟩; replace BK315 := As (blk_below (kb BK315.out) hb); replace HB := As (below_step (kB1 HB.out GE315.out) hb); (try clear hb); have hcz34_0 := cells_15 BK315.out; have hfz34_0 := fun j_ => blk_frozen BK315.out j_) | (go_at_call 99; (with_reducible refine (ipv4_host.calls b10 b11 b12 false _ A23.out).mono ?_); rintro e w35 ⟨rfl, hb⟩; replace BK315 := As (blk_below (kb BK315.out) hb); replace HB := As (below_step (kB1 HB.out GE315.out) hb); (try clear hb)))
   go_ret
   exact ⟨kE, by exact kB1 HB.out GE315.out⟩
  replace c22 := Bool.eq_false_iff.mpr c22
  subst c22
  rw [if_neg (show ¬ (false = true) by decide)] at H
  obtain rfl := Option.some.inj H
  have hcz36_0 := cells_15 BK315.out
  have hfz36_0 := fun j_ => blk_frozen BK315.out j_
  go_wp2_with (first | ((with_reducible refine gate_callee (f := 99) rfl ?_); refine goesL_ (some 34) rfl rfl Tryd.func99 (by kernel_rfl) rfl #[.agg #[.bool b7, .int .u64 b8, .int .u64 b9]] rfl kA ?_; (with_reducible refine (ipv4_host.calls b7 b8 b9 false _ A21.out).mono ?_); rintro e w37 ⟨rfl, hb⟩; refine ⟨_, rfl, ?_⟩; replace BK315 := As (blk_below (kb BK315.out) hb); replace HB := As (below_step (kB1 HB.out GE315.out) hb); (try clear hb)))
  go_ret
  exact ⟨kE, by exact kB1 HB.out GE315.out⟩

end Go.Proofs.YtocobalkikkhlaaDoor.X
-- short
-- short2
