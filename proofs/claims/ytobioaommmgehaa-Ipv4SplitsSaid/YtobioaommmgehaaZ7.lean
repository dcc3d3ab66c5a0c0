/- Functions and their walks, printed by xprint.py. -/
import Derived.Test.YtobioaommmgehaaZ0
import Derived.Test.YtobioaommmgehaaZ4
namespace Go.Proofs.Ytobioaommmgehaa.Z
open Go.RowKit Go.Proofs.YtobioaommmgehaaW.PrintWords Go.Proofs.YtobioaommmgehaaW.PrintLast Go.Proofs.YtobioaommmgehaaW.PrintMore
attribute [local go_sem] max2_int min2_int max_two min_two max_three min_three max_four min_four   -- for this text's walks alone
set_option linter.unusedVariables false
set_option linter.unusedSimpArgs false

/-! ### api_Option_46: function 46, and function 69, for the predicate 61: a Kind below 2 or above 255 -/
def badKind (o : S50) : Bool := decide (o.f0 < 2 ∨ 255 < o.f0)
set_option maxHeartbeats 4000000 in
set_option maxRecDepth 100000 in
theorem api_Option_46.pred (a : Int) (s : ByteArray) (w : World) : Calls Try.prog 61 #[.agg #[.int .i64 a, .string s]] w fun e w' => e = .returned (.bool (decide (a < 2 ∨ 255 < a))) ∧ Below w.heap.size w w' := by
  have hu := Try.underlying50
  by_cases c : a < 2
  · have cb := decide_eq_true c
    rw [decide_eq_true (show a < 2 ∨ 255 < a from .inl c)]
    clear c
    go_enter Try.func61, Try.ntmps61
    go_wp2
    go_ret
    exact ⟨rfl, below_alloc (Below.refl _ _) _⟩
  have cb := decide_eq_false c
  by_cases d : 255 < a
  · have db := decide_eq_true d
    rw [decide_eq_true (show a < 2 ∨ 255 < a from .inr d)]
    clear c d
    go_enter Try.func61, Try.ntmps61
    go_wp2
    go_ret
    exact ⟨rfl, below_alloc (Below.refl _ _) _⟩
  have db := decide_eq_false d
  rw [decide_eq_false (show ¬ (a < 2 ∨ 255 < a) from fun z => z.elim c d)]
  clear c d
  go_enter Try.func61, Try.ntmps61
  go_wp2
  go_ret
  exact ⟨rfl, below_alloc (Below.refl _ _) _⟩
def api_Option_46.l0 : Nat → List S50 → Int → Option Int
  | 0, _, _ => none
  | k + 1, l, i => if i < (l.length : Int) then (if 0 ≤ i then (if badKind (rd_T50 l i) = true then some i else api_Option_46.l0 k l (wrap64 (i + 1))) else none) else some (-1)
def api_Option_46.f (k : Nat) (l : List S50) : Option Bool := (api_Option_46.l0 k l 0).bind fun i => some (decide (i ≥ 0))
theorem api_Option_46.mono_l : ∀ k, (∀ l i, LeO (api_Option_46.l0 k l i) (api_Option_46.l0 (k + 1) l i))
  | 0 => fun _ _ r h => by simp [api_Option_46.l0] at h
  | k + 1 => by
    have ih0 := api_Option_46.mono_l k
    intro l i
    unfold api_Option_46.l0
    exact LeO.ite (LeO.ite (LeO.ite (LeO.refl _) (ih0 _ _)) (LeO.none _)) (LeO.refl _)
theorem api_Option_46.mono : ∀ l k, LeO (api_Option_46.f k l) (api_Option_46.f (k + 1) l) := fun l k => LeO.bind (api_Option_46.mono_l k l 0) (fun _ => LeO.refl _)
set_option maxHeartbeats 8000000 in
set_option maxRecDepth 100000 in
theorem api_Option_46.index (k : Nat) (A0 : Option Addr) (c0 : Nat) (l0 : List S50) (r : Int) (w : World) (hr0 : Kd.C k50 w A0 l0.length l0) (hc0 : l0.length ≤ c0) (h : api_Option_46.l0 k l0 0 = some r) :
    Calls Try.prog 69 #[.slice A0 l0.length c0, .func (.func 61) #[] #[]] w fun e w' => e = .returned (.int .i64 r) ∧ Below w.heap.size w w' := by
  have HR0 := As hr0
  have HC0 := As hc0
  clear hr0 hc0
  have H' := As h
  clear h
  have HB0 := As (Below.refl w.heap.size w)
  go_enter Try.func69, Try.ntmps69
  go_wp2
  go_loopg [8] k (fun kq v8 w' => ∃ (x : Int), v8 = .int .i64 x ∧ Aside0 (api_Option_46.l0 kq l0 x = some r) ∧ Aside0 (kq ≤ k) ∧ Aside0 (Below w.heap.size w w'))
  case atStart => exact ⟨0, rfl, H', ⟨Nat.le_refl _⟩, ⟨by repeat (first | exact HB0.out | apply below_drew1 | apply below_alloc | apply pw_below_drewN)⟩⟩
  clear H' HB0
  obtain ⟨x, rfl, HA, HK1, HB⟩ := hrel
  cases gk with
  | zero => exact absurd HA.out (by simp [api_Option_46.l0])
  | succ k1 =>
    have H := HA.out
    clear HA
    simp only [api_Option_46.l0] at H
    by_cases c2 : x < (l0.length : Int)
    · rw [if_pos c2] at H
      have c2b0 : decide (x < (l0.length : Int)) = true := decide_eq_true c2
      by_cases c3 : 0 ≤ x
      · rw [if_pos c3] at H
        have c3b0 : decide (0 ≤ x) = true := decide_eq_true c3
        have q1 := eq_true c2
        have q2 := eq_true c3
        obtain ⟨ad, e_, hx0, hx1⟩ := at_T50 (Kd.C_below HR0.out HB.out) x c3 c2
        cases e_
        by_cases c4 : badKind (rd_T50 l0 x) = true
        · rw [if_pos c4] at H
          have c4b : decide ((rd_T50 l0 x).f0 < 2 ∨ 255 < (rd_T50 l0 x).f0) = true := c4
          obtain rfl := Option.some.inj H
          clear c2 c3 c4
          go_wp2_with (first | (go_at_call 61; refine (api_Option_46.pred _ _ _).mono ?_; rintro e w2 ⟨rfl, hb⟩; rw [c4b]))
          all_goals go_ret
          all_goals exact ⟨rfl, by repeat (first | exact below_step HB.out hb | apply below_drew1)⟩
        rw [if_neg c4] at H
        have c4b : decide ((rd_T50 l0 x).f0 < 2 ∨ 255 < (rd_T50 l0 x).f0) = false := Bool.eq_false_iff.mpr c4
        have H' := As H
        clear H c2 c3 c4
        go_wp2_with (first | (go_at_call 61; refine (api_Option_46.pred _ _ _).mono ?_; rintro e w2 ⟨rfl, hb⟩; rw [c4b]))
        go_roundg k1
        case measure => have := HK1.out; omega
        case rel => exact ⟨wrap64 (x + 1), rfl, H', ⟨by have := HK1.out; omega⟩, ⟨by repeat (first | exact below_step HB.out hb | apply below_drew1)⟩⟩
      rw [if_neg c3] at H
      exact absurd H (by simp)
    rw [if_neg c2] at H
    have c2b0 : decide (x < (l0.length : Int)) = false := decide_eq_false c2
    obtain rfl := Option.some.inj H
    go_wp2
    go_ret
    exact ⟨rfl, by repeat (first | exact HB.out | apply below_drew1)⟩
set_option maxHeartbeats 8000000 in
set_option maxRecDepth 100000 in
theorem api_Option_46.calls (k : Nat) (A0 : Option Addr) (c0 : Nat) (l0 : List S50) (r : Bool) (w : World) (hr0 : Kd.C k50 w A0 l0.length l0) (hc0 : l0.length ≤ c0) (h : api_Option_46.f k l0 = some r) :
    Calls Try.prog 46 #[.slice A0 l0.length c0, .func (.func 61) #[] #[]] w fun e w' => e = .returned (.bool r) ∧ Below w.heap.size w w' := by
  obtain ⟨i, h1, h2⟩ := Option.bind_eq_some_iff.mp h
  obtain rfl := Option.some.inj h2
  have HR0 := As hr0
  have HC0 := As hc0
  have H1 := As h1
  clear hr0 hc0 h h1 h2
  go_enter Try.func46, Try.ntmps46
  go_wp2_with (first | (go_at_call 69; refine (api_Option_46.index k A0 c0 l0 i _ (Kd.C_below HR0.out (by repeat (first | exact Below.refl _ _ | apply below_drew1))) HC0.out H1.out).mono ?_; rintro e w2 ⟨rfl, hb⟩))
  go_ret
  exact ⟨rfl, by repeat (first | exact hb | apply below_drew1 | exact below_step (Below.refl _ _) hb)⟩
/-! ### api_Option_R: function 46, and function 69, for the predicate 47: a Kind of 131 or 137 -/
def srcKind (o : S50) : Bool := decide (o.f0 = 131 ∨ o.f0 = 137)
set_option maxHeartbeats 4000000 in
set_option maxRecDepth 100000 in
theorem api_Option_R.pred (a : Int) (s : ByteArray) (w : World) : Calls Try.prog 47 #[.agg #[.int .i64 a, .string s]] w fun e w' => e = .returned (.bool (decide (a = 131 ∨ a = 137))) ∧ Below w.heap.size w w' := by
  have hu := Try.underlying50
  by_cases c : a = 131
  · have cb : (a == 131) = true := beq_iff_eq.mpr c
    rw [decide_eq_true (show a = 131 ∨ a = 137 from .inl c)]
    clear c
    go_enter Try.func47, Try.ntmps47
    go_wp2
    go_ret
    exact ⟨rfl, below_alloc (Below.refl _ _) _⟩
  have cb : (a == 131) = false := beq_eq_false_iff_ne.mpr c
  by_cases d : a = 137
  · have db : (a == 137) = true := beq_iff_eq.mpr d
    rw [decide_eq_true (show a = 131 ∨ a = 137 from .inr d)]
    clear c d
    go_enter Try.func47, Try.ntmps47
    go_wp2
    go_ret
    exact ⟨rfl, below_alloc (Below.refl _ _) _⟩
  have db : (a == 137) = false := beq_eq_false_iff_ne.mpr d
  rw [decide_eq_false (show ¬ (a = 131 ∨ a = 137) from fun z => z.elim c d)]
  clear c d
  go_enter Try.func47, Try.ntmps47
  go_wp2
  go_ret
  exact ⟨rfl, below_alloc (Below.refl _ _) _⟩
def api_Option_R.l0 : Nat → List S50 → Int → Option Int
  | 0, _, _ => none
  | k + 1, l, i => if i < (l.length : Int) then (if 0 ≤ i then (if srcKind (rd_T50 l i) = true then some i else api_Option_R.l0 k l (wrap64 (i + 1))) else none) else some (-1)
def api_Option_R.f (k : Nat) (l : List S50) : Option Bool := (api_Option_R.l0 k l 0).bind fun i => some (decide (i ≥ 0))
theorem api_Option_R.mono_l : ∀ k, (∀ l i, LeO (api_Option_R.l0 k l i) (api_Option_R.l0 (k + 1) l i))
  | 0 => fun _ _ r h => by simp [api_Option_R.l0] at h
  | k + 1 => by
    have ih0 := api_Option_R.mono_l k
    intro l i
    unfold api_Option_R.l0
    exact LeO.ite (LeO.ite (LeO.ite (LeO.refl _) (ih0 _ _)) (LeO.none _)) (LeO.refl _)
theorem api_Option_R.mono : ∀ l k, LeO (api_Option_R.f k l) (api_Option_R.f (k + 1) l) := fun l k => LeO.bind (api_Option_R.mono_l k l 0) (fun _ => LeO.refl _)
set_option maxHeartbeats 8000000 in
set_option maxRecDepth 100000 in
theorem api_Option_R.index (k : Nat) (A0 : Option Addr) (c0 : Nat) (l0 : List S50) (r : Int) (w : World) (hr0 : Kd.C k50 w A0 l0.length l0) (hc0 : l0.length ≤ c0) (h : api_Option_R.l0 k l0 0 = some r) :
    Calls Try.prog 69 #[.slice A0 l0.length c0, .func (.func 47) #[] #[]] w fun e w' => e = .returned (.int .i64 r) ∧ Below w.heap.size w w' := by
  have HR0 := As hr0
  have HC0 := As hc0
  clear hr0 hc0
  have H' := As h
  clear h
  have HB0 := As (Below.refl w.heap.size w)
  go_enter Try.func69, Try.ntmps69
  go_wp2
  go_loopg [8] k (fun kq v8 w' => ∃ (x : Int), v8 = .int .i64 x ∧ Aside0 (api_Option_R.l0 kq l0 x = some r) ∧ Aside0 (kq ≤ k) ∧ Aside0 (Below w.heap.size w w'))
  case atStart => exact ⟨0, rfl, H', ⟨Nat.le_refl _⟩, ⟨by repeat (first | exact HB0.out | apply below_drew1 | apply below_alloc | apply pw_below_drewN)⟩⟩
  clear H' HB0
  obtain ⟨x, rfl, HA, HK1, HB⟩ := hrel
  cases gk with
  | zero => exact absurd HA.out (by simp [api_Option_R.l0])
  | succ k1 =>
    have H := HA.out
    clear HA
    simp only [api_Option_R.l0] at H
    by_cases c2 : x < (l0.length : Int)
    · rw [if_pos c2] at H
      have c2b0 : decide (x < (l0.length : Int)) = true := decide_eq_true c2
      by_cases c3 : 0 ≤ x
      · rw [if_pos c3] at H
        have c3b0 : decide (0 ≤ x) = true := decide_eq_true c3
        have q1 := eq_true c2
        have q2 := eq_true c3
        obtain ⟨ad, e_, hx0, hx1⟩ := at_T50 (Kd.C_below HR0.out HB.out) x c3 c2
        cases e_
        by_cases c4 : srcKind (rd_T50 l0 x) = true
        · rw [if_pos c4] at H
          have c4b : decide ((rd_T50 l0 x).f0 = 131 ∨ (rd_T50 l0 x).f0 = 137) = true := c4
          obtain rfl := Option.some.inj H
          clear c2 c3 c4
          go_wp2_with (first | (go_at_call 47; refine (api_Option_R.pred _ _ _).mono ?_; rintro e w2 ⟨rfl, hb⟩; rw [c4b]))
          all_goals go_ret
          all_goals exact ⟨rfl, by repeat (first | exact below_step HB.out hb | apply below_drew1)⟩
        rw [if_neg c4] at H
        have c4b : decide ((rd_T50 l0 x).f0 = 131 ∨ (rd_T50 l0 x).f0 = 137) = false := Bool.eq_false_iff.mpr c4
        have H' := As H
        clear H c2 c3 c4
        go_wp2_with (first | (go_at_call 47; refine (api_Option_R.pred _ _ _).mono ?_; rintro e w2 ⟨rfl, hb⟩; rw [c4b]))
        go_roundg k1
        case measure => have := HK1.out; omega
        case rel => exact ⟨wrap64 (x + 1), rfl, H', ⟨by have := HK1.out; omega⟩, ⟨by repeat (first | exact below_step HB.out hb | apply below_drew1)⟩⟩
      rw [if_neg c3] at H
      exact absurd H (by simp)
    rw [if_neg c2] at H
    have c2b0 : decide (x < (l0.length : Int)) = false := decide_eq_false c2
    obtain rfl := Option.some.inj H
    go_wp2
    go_ret
    exact ⟨rfl, by repeat (first | exact HB.out | apply below_drew1)⟩
set_option maxHeartbeats 8000000 in
set_option maxRecDepth 100000 in
theorem api_Option_R.calls (k : Nat) (A0 : Option Addr) (c0 : Nat) (l0 : List S50) (r : Bool) (w : World) (hr0 : Kd.C k50 w A0 l0.length l0) (hc0 : l0.length ≤ c0) (h : api_Option_R.f k l0 = some r) :
    Calls Try.prog 46 #[.slice A0 l0.length c0, .func (.func 47) #[] #[]] w fun e w' => e = .returned (.bool r) ∧ Below w.heap.size w w' := by
  obtain ⟨i, h1, h2⟩ := Option.bind_eq_some_iff.mp h
  obtain rfl := Option.some.inj h2
  have HR0 := As hr0
  have HC0 := As hc0
  have H1 := As h1
  clear hr0 hc0 h h1 h2
  go_enter Try.func46, Try.ntmps46
  go_wp2_with (first | (go_at_call 69; refine (api_Option_R.index k A0 c0 l0 i _ (Kd.C_below HR0.out (by repeat (first | exact Below.refl _ _ | apply below_drew1))) HC0.out H1.out).mono ?_; rintro e w2 ⟨rfl, hb⟩))
  go_ret
  exact ⟨rfl, by repeat (first | exact hb | apply below_drew1 | exact below_step (Below.refl _ _) hb)⟩

/-! ### ipv4_outside: function 59 -/
def ipv4_outside.f (a0 : Int) (a1 : Int) : Option (Bool) := if a0 < 0 then (some true) else (some (decide (a0 > a1)))
set_option maxHeartbeats 8000000 in
set_option maxRecDepth 100000 in
theorem ipv4_outside.calls (a0 : Int) (a1 : Int) (r : Bool) (w : World) (h : ipv4_outside.f a0 a1 = some r) :
  Calls Try.prog 59 #[.int .i64 a0, .int .i64 a1] w fun e w' => e = .returned (.bool r) ∧ Drawn0 w w' := by
 have H : (if a0 < 0 then (some true) else (some (decide (a0 > a1)))) = some r := h
 clear h
 by_cases c3 : a0 < 0
 ·rw [if_pos c3] at H
  have c3b0 : decide (a0 < 0) = true := decide_eq_true c3
  clear c3
  obtain rfl := Option.some.inj H
  go_enter Try.func59, Try.ntmps59
  go_wp2
  go_ret
  exact ⟨by first | rfl | (simp; done) | (simp [*]; done), by repeat (first | exact Drawn0.refl _ | apply Drawn0.step)⟩
 rw [if_neg c3] at H
 have c3b0 : decide (a0 < 0) = false := decide_eq_false c3
 clear c3
 obtain rfl := Option.some.inj H
 go_enter Try.func59, Try.ntmps59
 go_wp2
 go_ret
 exact ⟨by first | rfl | (simp; done) | (simp [*]; done), by repeat (first | exact Drawn0.refl _ | apply Drawn0.step)⟩

/-! ### address_Valid: function 71 -/
def address_Valid.f (a0_0 : Bool) (a0_1 : Int) (a0_2 : Int) : Option (Bool) := if a0_0 = true then (some true) else (if a0_1 = 0 then (some (decide (a0_2 ≤ 4294967295))) else (some false))
set_option maxHeartbeats 8000000 in
set_option maxRecDepth 100000 in
theorem address_Valid.calls (a0_0 : Bool) (a0_1 : Int) (a0_2 : Int) (r : Bool) (w : World) (h : address_Valid.f a0_0 a0_1 a0_2 = some r) :
  Calls Try.prog 71 #[.agg #[.bool a0_0, .int .u64 a0_1, .int .u64 a0_2]] w fun e w' => e = .returned (.bool r) ∧ Below w.heap.size w w' := by
 have hu25 := Try.underlying25
 have HB := As (Below.refl w.heap.size w)
 have H : (if a0_0 = true then (some true) else (if a0_1 = 0 then (some (decide (a0_2 ≤ 4294967295))) else (some false))) = some r := h
 clear h
 by_cases c2 : a0_0 = true
 ·subst c2
  rw [if_pos rfl] at H
  obtain rfl := Option.some.inj H
  go_enter Try.func71, Try.ntmps71
  go_wp2_with (first | ((with_reducible refine gate_dst (N := 1) rfl ?_); refine box_event rfl (N := 1) rfl (cs := #[.bool true, .int .u64 a0_1, .int .u64 a0_2]) (t := 25) kG ?_; intro gb199 hg w3 hbox hb; have BK199 := As (hbox); have GW199 := As (gS hg (below_size (kB HB.out))); have GE199 := As (gS hg (below_size (kB HB.out))); replace HB := As (below_step (kB HB.out) hb); clear hb hbox hg; have hcz4_0 := cells_3 BK199.out; have hfz4_0 := fun j_ => blk_frozen BK199.out j_))
  go_ret
  exact ⟨kE, by exact kB1 HB.out GE199.out⟩
 replace c2 := Bool.eq_false_iff.mpr c2
 subst c2
 rw [if_neg (show ¬ (false = true) by decide)] at H
 by_cases c5 : a0_1 = 0
 ·rw [if_pos c5] at H
  have c5b0 : (a0_1 == 0) = true := beq_iff_eq.mpr c5
  have c5b1 : (a0_1 != 0) = false := bne_eq_false_iff_eq.mpr c5
  clear c5
  obtain rfl := Option.some.inj H
  go_enter Try.func71, Try.ntmps71
  go_wp2_with (first | ((with_reducible refine gate_dst (N := 1) rfl ?_); refine box_event rfl (N := 1) rfl (cs := #[.bool false, .int .u64 a0_1, .int .u64 a0_2]) (t := 25) kG ?_; intro gb199 hg w6 hbox hb; have BK199 := As (hbox); have GW199 := As (gS hg (below_size (kB HB.out))); have GE199 := As (gS hg (below_size (kB HB.out))); replace HB := As (below_step (kB HB.out) hb); clear hb hbox hg; have hcz7_0 := cells_3 BK199.out; have hfz7_0 := fun j_ => blk_frozen BK199.out j_))
  go_ret
  exact ⟨kE, by exact kB1 HB.out GE199.out⟩
 rw [if_neg c5] at H
 have c5b0 : (a0_1 == 0) = false := beq_eq_false_iff_ne.mpr c5
 have c5b1 : (a0_1 != 0) = true := bne_iff_ne.mpr c5
 obtain rfl := Option.some.inj H
 go_enter Try.func71, Try.ntmps71
 go_wp2_with (first | ((with_reducible refine gate_dst (N := 1) rfl ?_); refine box_event rfl (N := 1) rfl (cs := #[.bool false, .int .u64 a0_1, .int .u64 a0_2]) (t := 25) kG ?_; intro gb199 hg w8 hbox hb; have BK199 := As (hbox); have GW199 := As (gS hg (below_size (kB HB.out))); have GE199 := As (gS hg (below_size (kB HB.out))); replace HB := As (below_step (kB HB.out) hb); clear hb hbox hg; have hcz9_0 := cells_3 BK199.out; have hfz9_0 := fun j_ => blk_frozen BK199.out j_))
 go_ret
 exact ⟨kE, by exact kB1 HB.out GE199.out⟩

/-! ### ipv4_host: function 60 -/
def ipv4_host.f (a0_0 : Bool) (a0_1 : Int) (a0_2 : Int) : Option (Bool) := if a0_0 = true then (some false) else ((address_Valid.f a0_0 a0_1 a0_2).bind fun t201 => (some t201))
set_option maxHeartbeats 8000000 in
set_option maxRecDepth 100000 in
theorem ipv4_host.calls (a0_0 : Bool) (a0_1 : Int) (a0_2 : Int) (r : Bool) (w : World) (h : ipv4_host.f a0_0 a0_1 a0_2 = some r) :
  Calls Try.prog 60 #[.agg #[.bool a0_0, .int .u64 a0_1, .int .u64 a0_2]] w fun e w' => e = .returned (.bool r) ∧ Below w.heap.size w w' := by
 have hu25 := Try.underlying25
 have HB := As (Below.refl w.heap.size w)
 have H : (if a0_0 = true then (some false) else ((address_Valid.f a0_0 a0_1 a0_2).bind fun t201 => (some t201))) = some r := h
 clear h
 by_cases c2 : a0_0 = true
 ·subst c2
  rw [if_pos rfl] at H
  obtain rfl := Option.some.inj H
  go_enter Try.func60, Try.ntmps60
  go_wp2_with (first | ((with_reducible refine gate_dst (N := 1) rfl ?_); refine box_event rfl (N := 1) rfl (cs := #[.bool true, .int .u64 a0_1, .int .u64 a0_2]) (t := 25) kG ?_; intro gb200 hg w3 hbox hb; have BK200 := As (hbox); have GW200 := As (gS hg (below_size (kB HB.out))); have GE200 := As (gS hg (below_size (kB HB.out))); replace HB := As (below_step (kB HB.out) hb); clear hb hbox hg; have hcz4_0 := cells_3 BK200.out; have hfz4_0 := fun j_ => blk_frozen BK200.out j_))
  go_ret
  exact ⟨kE, by exact kB1 HB.out GE200.out⟩
 replace c2 := Bool.eq_false_iff.mpr c2
 subst c2
 rw [if_neg (show ¬ (false = true) by decide)] at H
 replace H := bS H
 obtain ⟨t201, A5, H⟩ := H
 obtain rfl := Option.some.inj H
 go_enter Try.func60, Try.ntmps60
 go_wp2_with (first | ((with_reducible refine gate_dst (N := 1) rfl ?_); refine box_event rfl (N := 1) rfl (cs := #[.bool false, .int .u64 a0_1, .int .u64 a0_2]) (t := 25) kG ?_; intro gb200 hg w6 hbox hb; have BK200 := As (hbox); have GW200 := As (gS hg (below_size (kB HB.out))); have GE200 := As (gS hg (below_size (kB HB.out))); replace HB := As (below_step (kB HB.out) hb); clear hb hbox hg; have hcz7_0 := cells_3 BK200.out; have hfz7_0 := fun j_ => blk_frozen BK200.out j_) | (go_at_call 71; (with_reducible refine (address_Valid.calls false a0_1 a0_2 t201 _ A5.out).mono ?_); rintro e w8 ⟨rfl, hb⟩; replace BK200 := As (blk_below (kb BK200.out) hb); replace HB := As (below_step (kB1 HB.out GE200.out) hb); (try clear hb)))
 go_ret
 exact ⟨kE, by exact kB1 HB.out GE200.out⟩

/-! ### ipv4_inRange: function 35 -/
def ipv4_inRange.j0 : Nat → Bool → Int → Int → Int → Int → Bool → Bool → Int → Bool → Int → Int → Bool → Int → Int → List (S50) → ByteArray → Option (Bool)
 | 0, _, _, _, _, _, _, _, _, _, _, _, _, _, _, _, _ => none
 | k + 1, x31, x203000, x203001, x203002, x203003, x203004, x203005, x203006, x203007, x203008, x203009, x203010, x203011, x203012, x203013, x203014 => if x31 = true then (some false) else ((ipv4_host.f x203007 x203008 x203009).bind fun t208 => (if t208 = true then ((ipv4_host.f x203010 x203011 x203012).bind fun t209 => (if t209 = true then ((api_Option_46.f k x203013).bind fun t210 => (some (!t210))) else (some false))) else (some false)))
def ipv4_inRange.f (k : Nat) (b0 : Int) (b1 : Int) (b2 : Int) (b3 : Int) (b4 : Bool) (b5 : Bool) (b6 : Int) (b7 : Bool) (b8 : Int) (b9 : Int) (b10 : Bool) (b11 : Int) (b12 : Int) (l0_13 : List (S50)) (b14 : ByteArray) : Option (Bool) := (ipv4_outside.f b0 255).bind fun t203 => (if t203 = true then (ipv4_inRange.j0 k true b0 b1 b2 b3 b4 b5 b6 b7 b8 b9 b10 b11 b12 l0_13 b14) else ((ipv4_outside.f b2 255).bind fun t204 => (if t204 = true then (ipv4_inRange.j0 k true b0 b1 b2 b3 b4 b5 b6 b7 b8 b9 b10 b11 b12 l0_13 b14) else ((ipv4_outside.f b3 255).bind fun t205 => (if t205 = true then (ipv4_inRange.j0 k true b0 b1 b2 b3 b4 b5 b6 b7 b8 b9 b10 b11 b12 l0_13 b14) else ((ipv4_outside.f b1 65535).bind fun t206 => (if t206 = true then (ipv4_inRange.j0 k true b0 b1 b2 b3 b4 b5 b6 b7 b8 b9 b10 b11 b12 l0_13 b14) else ((ipv4_outside.f b6 65528).bind fun t207 => (if t207 = true then (ipv4_inRange.j0 k true b0 b1 b2 b3 b4 b5 b6 b7 b8 b9 b10 b11 b12 l0_13 b14) else (ipv4_inRange.j0 k ((Int.tmod b6 8) != 0) b0 b1 b2 b3 b4 b5 b6 b7 b8 b9 b10 b11 b12 l0_13 b14))))))))))
theorem ipv4_inRange.mono_l : ∀ k, (∀ y0 y1 y2 y3 y4 y5 y6 y7 y8 y9 y10 y11 y12 y13 y14 y15, LeO (ipv4_inRange.j0 k y0 y1 y2 y3 y4 y5 y6 y7 y8 y9 y10 y11 y12 y13 y14 y15) (ipv4_inRange.j0 (k + 1) y0 y1 y2 y3 y4 y5 y6 y7 y8 y9 y10 y11 y12 y13 y14 y15))
 | 0 => fun _ _ _ _ _ _ _ _ _ _ _ _ _ _ _ _ r h => by simp [ipv4_inRange.j0] at h
 | k + 1 => by
  have ih0 := ipv4_inRange.mono_l k
  intro y0 y1 y2 y3 y4 y5 y6 y7 y8 y9 y10 y11 y12 y13 y14 y15
  unfold ipv4_inRange.j0
  repeat' first | with_reducible first | apply ih0 | apply api_Option_46.mono | apply LeO.refl | apply LeO.none | refine LeO.ite ?_ ?_ | refine LeO.bind ?_ (fun _ => ?_)
theorem ipv4_inRange.mono : ∀ a0 a1 a2 a3 a4 a5 a6 a7 a8 a9 a10 a11 a12 a13 a14 k, LeO (ipv4_inRange.f k a0 a1 a2 a3 a4 a5 a6 a7 a8 a9 a10 a11 a12 a13 a14) (ipv4_inRange.f (k + 1) a0 a1 a2 a3 a4 a5 a6 a7 a8 a9 a10 a11 a12 a13 a14) := by
 intro a0 a1 a2 a3 a4 a5 a6 a7 a8 a9 a10 a11 a12 a13 a14 k
 have ih0 := ipv4_inRange.mono_l k
 unfold ipv4_inRange.f
 repeat' first | with_reducible first | apply ih0 | apply api_Option_46.mono | apply LeO.refl | apply LeO.none | refine LeO.ite ?_ ?_ | refine LeO.bind ?_ (fun _ => ?_)
set_option maxHeartbeats 8000000 in
set_option maxRecDepth 100000 in
theorem ipv4_inRange.calls (k : Nat) (b0 : Int) (b1 : Int) (b2 : Int) (b3 : Int) (b4 : Bool) (b5 : Bool) (b6 : Int) (b7 : Bool) (b8 : Int) (b9 : Int) (b10 : Bool) (b11 : Int) (b12 : Int) (A0_13 : Option Addr) (c0_13 : Nat) (l0_13 : List (S50)) (b14 : ByteArray) (r : Bool) (w : World) (hr0_13 : Kd.C k50 w A0_13 l0_13.length l0_13) (hc0_13 : l0_13.length ≤ c0_13) (h : ipv4_inRange.f k b0 b1 b2 b3 b4 b5 b6 b7 b8 b9 b10 b11 b12 l0_13 b14 = some r) :
  Calls Try.prog 35 #[.agg #[.int .i64 b0, .int .i64 b1, .int .i64 b2, .int .i64 b3, .bool b4, .bool b5, .int .i64 b6, .bool b7, .int .u64 b8, .int .u64 b9, .bool b10, .int .u64 b11, .int .u64 b12, .slice A0_13 l0_13.length c0_13, .string b14]] w fun e w' => e = .returned (.bool r) ∧ Below w.heap.size w w' := by
 have hu28 := Try.underlying28
 have hu25 := Try.underlying25
 have HR0_13 := As hr0_13
 have HC0_13 := As hc0_13
 clear hr0_13 hc0_13
 have HB := As (Below.refl w.heap.size w)
 have H : ((ipv4_outside.f b0 255).bind fun t203 => (if t203 = true then (ipv4_inRange.j0 k true b0 b1 b2 b3 b4 b5 b6 b7 b8 b9 b10 b11 b12 l0_13 b14) else ((ipv4_outside.f b2 255).bind fun t204 => (if t204 = true then (ipv4_inRange.j0 k true b0 b1 b2 b3 b4 b5 b6 b7 b8 b9 b10 b11 b12 l0_13 b14) else ((ipv4_outside.f b3 255).bind fun t205 => (if t205 = true then (ipv4_inRange.j0 k true b0 b1 b2 b3 b4 b5 b6 b7 b8 b9 b10 b11 b12 l0_13 b14) else ((ipv4_outside.f b1 65535).bind fun t206 => (if t206 = true then (ipv4_inRange.j0 k true b0 b1 b2 b3 b4 b5 b6 b7 b8 b9 b10 b11 b12 l0_13 b14) else ((ipv4_outside.f b6 65528).bind fun t207 => (if t207 = true then (ipv4_inRange.j0 k true b0 b1 b2 b3 b4 b5 b6 b7 b8 b9 b10 b11 b12 l0_13 b14) else (ipv4_inRange.j0 k ((Int.tmod b6 8) != 0) b0 b1 b2 b3 b4 b5 b6 b7 b8 b9 b10 b11 b12 l0_13 b14))))))))))) = some r := h
 clear h
 have HC2 := As H
 clear H
 go_enter Try.func35, Try.ntmps35
 go_upto_region 1 with (first | ((with_reducible refine gate_dst (N := 1) rfl ?_); refine box_event rfl (N := 1) rfl (cs := #[.int .i64 b0, .int .i64 b1, .int .i64 b2, .int .i64 b3, .bool b4, .bool b5, .int .i64 b6, .bool b7, .int .u64 b8, .int .u64 b9, .bool b10, .int .u64 b11, .int .u64 b12, .slice A0_13 l0_13.length c0_13, .string b14]) (t := 28) kG ?_; intro gb202 hg w3 hbox hb; have BK202 := As (hbox); have GW202 := As (gS hg (below_size (kB HB.out))); have GE202 := As (gS hg (below_size (kB HB.out))); replace HB := As (below_step (kB HB.out) hb); clear hb hbox hg))
 (try simp only [Act.put, sA, sZ, sS])
 go_cut [31] (fun v31 wc => ∃ (kq : Nat) (x31_1 : Bool), v31 = .bool x31_1 ∧ Aside0 (ipv4_inRange.j0 kq x31_1 b0 b1 b2 b3 b4 b5 b6 b7 b8 b9 b10 b11 b12 l0_13 b14 = some r) ∧ Aside0 (kq ≤ k) ∧ Aside0 (wc.heap[gb202]? = some (.cells #[.int .i64 b0, .int .i64 b1, .int .i64 b2, .int .i64 b3, .bool b4, .bool b5, .int .i64 b6, .bool b7, .int .u64 b8, .int .u64 b9, .bool b10, .int .u64 b11, .int .u64 b12, (.slice A0_13 l0_13.length c0_13), .string b14] 28 (0, 0))) ∧ Aside0 (Below w.heap.size w wc))
 case first =>
  have H := HC2.out
  clear HC2
  replace H := bS H
  obtain ⟨t203, A4, H⟩ := H
  by_cases c5 : t203 = true
  ·subst c5
   rw [if_pos rfl] at H
   have H' := As H
   clear H
   have hcz6_0 := cells_15 BK202.out
   have hfz6_0 := fun j_ => blk_frozen BK202.out j_
   go_wp2_with (first | ((with_reducible refine gate_callee (f := 59) rfl ?_); refine goesL_ (some 5) rfl rfl Try.func59 (by kernel_rfl) rfl #[.int .i64 b0, .int .i64 255] rfl kA ?_; (with_reducible refine (ipv4_outside.calls b0 255 true _ A4.out).mono ?_); rintro e w' ⟨rfl, ⟨nd, rfl⟩⟩; refine ⟨_, rfl, ?_⟩))
   go_meet
   case rel => exact ⟨_, (true), kS, H', ⟨by first | omega | exact Nat.le_refl _⟩, ⟨kb BK202.out⟩, ⟨kB1 HB.out GE202.out⟩⟩
  replace c5 := Bool.eq_false_iff.mpr c5
  subst c5
  rw [if_neg (show ¬ (false = true) by decide)] at H
  replace H := bS H
  obtain ⟨t204, A7, H⟩ := H
  by_cases c8 : t204 = true
  ·subst c8
   rw [if_pos rfl] at H
   have H' := As H
   clear H
   have hcz9_0 := cells_15 BK202.out
   have hfz9_0 := fun j_ => blk_frozen BK202.out j_
   go_wp2_with (first | ((with_reducible refine gate_callee (f := 59) rfl ?_); refine goesL_ (some 5) rfl rfl Try.func59 (by kernel_rfl) rfl #[.int .i64 b0, .int .i64 255] rfl kA ?_; (with_reducible refine (ipv4_outside.calls b0 255 false _ A4.out).mono ?_); rintro e w' ⟨rfl, ⟨nd, rfl⟩⟩; refine ⟨_, rfl, ?_⟩) | (go_at_call 59; (with_reducible refine (ipv4_outside.calls b2 255 true _ A7.out).mono ?_); rintro e w' ⟨rfl, ⟨nd, rfl⟩⟩))
   go_meet
   case rel => exact ⟨_, (true), kS, H', ⟨by first | omega | exact Nat.le_refl _⟩, ⟨kb BK202.out⟩, ⟨kB1 HB.out GE202.out⟩⟩
  replace c8 := Bool.eq_false_iff.mpr c8
  subst c8
  rw [if_neg (show ¬ (false = true) by decide)] at H
  replace H := bS H
  obtain ⟨t205, A10, H⟩ := H
  by_cases c11 : t205 = true
  ·subst c11
   rw [if_pos rfl] at H
   have H' := As H
   clear H
   have hcz12_0 := cells_15 BK202.out
   have hfz12_0 := fun j_ => blk_frozen BK202.out j_
   go_wp2_with (first | ((with_reducible refine gate_callee (f := 59) rfl ?_); refine goesL_ (some 5) rfl rfl Try.func59 (by kernel_rfl) rfl #[.int .i64 b0, .int .i64 255] rfl kA ?_; (with_reducible refine (ipv4_outside.calls b0 255 false _ A4.out).mono ?_); rintro e w' ⟨rfl, ⟨nd, rfl⟩⟩; refine ⟨_, rfl, ?_⟩) | (go_at_call 59; (with_reducible refine (ipv4_outside.calls b2 255 false _ A7.out).mono ?_); rintro e w' ⟨rfl, ⟨nd, rfl⟩⟩) | (go_at_call 59; (with_reducible refine (ipv4_outside.calls b3 255 true _ A10.out).mono ?_); rintro e w' ⟨rfl, ⟨nd, rfl⟩⟩))
   go_meet
   case rel => exact ⟨_, (true), kS, H', ⟨by first | omega | exact Nat.le_refl _⟩, ⟨kb BK202.out⟩, ⟨kB1 HB.out GE202.out⟩⟩
  replace c11 := Bool.eq_false_iff.mpr c11
  subst c11
  rw [if_neg (show ¬ (false = true) by decide)] at H
  replace H := bS H
  obtain ⟨t206, A13, H⟩ := H
  by_cases c14 : t206 = true
  ·subst c14
   rw [if_pos rfl] at H
   have H' := As H
   clear H
   have hcz15_0 := cells_15 BK202.out
   have hfz15_0 := fun j_ => blk_frozen BK202.out j_
   go_wp2_with (first | ((with_reducible refine gate_callee (f := 59) rfl ?_); refine goesL_ (some 5) rfl rfl Try.func59 (by kernel_rfl) rfl #[.int .i64 b0, .int .i64 255] rfl kA ?_; (with_reducible refine (ipv4_outside.calls b0 255 false _ A4.out).mono ?_); rintro e w' ⟨rfl, ⟨nd, rfl⟩⟩; refine ⟨_, rfl, ?_⟩) | (go_at_call 59; (with_reducible refine (ipv4_outside.calls b2 255 false _ A7.out).mono ?_); rintro e w' ⟨rfl, ⟨nd, rfl⟩⟩) | (go_at_call 59; (with_reducible refine (ipv4_outside.calls b3 255 false _ A10.out).mono ?_); rintro e w' ⟨rfl, ⟨nd, rfl⟩⟩) | (go_at_call 59; (with_reducible refine (ipv4_outside.calls b1 65535 true _ A13.out).mono ?_); rintro e w' ⟨rfl, ⟨nd, rfl⟩⟩))
   go_meet
   case rel => exact ⟨_, (true), kS, H', ⟨by first | omega | exact Nat.le_refl _⟩, ⟨kb BK202.out⟩, ⟨kB1 HB.out GE202.out⟩⟩
  replace c14 := Bool.eq_false_iff.mpr c14
  subst c14
  rw [if_neg (show ¬ (false = true) by decide)] at H
  replace H := bS H
  obtain ⟨t207, A16, H⟩ := H
  by_cases c17 : t207 = true
  ·subst c17
   rw [if_pos rfl] at H
   have H' := As H
   clear H
   have hcz18_0 := cells_15 BK202.out
   have hfz18_0 := fun j_ => blk_frozen BK202.out j_
   go_wp2_with (first | ((with_reducible refine gate_callee (f := 59) rfl ?_); refine goesL_ (some 5) rfl rfl Try.func59 (by kernel_rfl) rfl #[.int .i64 b0, .int .i64 255] rfl kA ?_; (with_reducible refine (ipv4_outside.calls b0 255 false _ A4.out).mono ?_); rintro e w' ⟨rfl, ⟨nd, rfl⟩⟩; refine ⟨_, rfl, ?_⟩) | (go_at_call 59; (with_reducible refine (ipv4_outside.calls b2 255 false _ A7.out).mono ?_); rintro e w' ⟨rfl, ⟨nd, rfl⟩⟩) | (go_at_call 59; (with_reducible refine (ipv4_outside.calls b3 255 false _ A10.out).mono ?_); rintro e w' ⟨rfl, ⟨nd, rfl⟩⟩) | (go_at_call 59; (with_reducible refine (ipv4_outside.calls b1 65535 false _ A13.out).mono ?_); rintro e w' ⟨rfl, ⟨nd, rfl⟩⟩) | (go_at_call 59; (with_reducible refine (ipv4_outside.calls b6 65528 true _ A16.out).mono ?_); rintro e w' ⟨rfl, ⟨nd, rfl⟩⟩))
   go_meet
   case rel => exact ⟨_, (true), kS, H', ⟨by first | omega | exact Nat.le_refl _⟩, ⟨kb BK202.out⟩, ⟨kB1 HB.out GE202.out⟩⟩
  replace c17 := Bool.eq_false_iff.mpr c17
  subst c17
  rw [if_neg (show ¬ (false = true) by decide)] at H
  have H' := As H
  clear H
  have hcz19_0 := cells_15 BK202.out
  have hfz19_0 := fun j_ => blk_frozen BK202.out j_
  go_wp2_with (first | ((with_reducible refine gate_callee (f := 59) rfl ?_); refine goesL_ (some 5) rfl rfl Try.func59 (by kernel_rfl) rfl #[.int .i64 b0, .int .i64 255] rfl kA ?_; (with_reducible refine (ipv4_outside.calls b0 255 false _ A4.out).mono ?_); rintro e w' ⟨rfl, ⟨nd, rfl⟩⟩; refine ⟨_, rfl, ?_⟩) | (go_at_call 59; (with_reducible refine (ipv4_outside.calls b2 255 false _ A7.out).mono ?_); rintro e w' ⟨rfl, ⟨nd, rfl⟩⟩) | (go_at_call 59; (with_reducible refine (ipv4_outside.calls b3 255 false _ A10.out).mono ?_); rintro e w' ⟨rfl, ⟨nd, rfl⟩⟩) | (go_at_call 59; (with_reducible refine (ipv4_outside.calls b1 65535 false _ A13.out).mono ?_); rintro e w' ⟨rfl, ⟨nd, rfl⟩⟩) | (go_at_call 59; (with_reducible refine (ipv4_outside.calls b6 65528 false _ A16.out).mono ?_); rintro e w' ⟨rfl, ⟨nd, rfl⟩⟩))
  go_meet
  case rel => exact ⟨_, (((Int.tmod b6 8) != 0)), kS, H', ⟨by first | omega | exact Nat.le_refl _⟩, ⟨kb BK202.out⟩, ⟨kB1 HB.out GE202.out⟩⟩
 clear HC2
 obtain ⟨kq, x31_1, rfl, HA, HJ1, BK202, HB⟩ := hcut
 cases kq with
 | zero => exact absurd HA.out (by simp [ipv4_inRange.j0])
 | succ kj1 =>
  have H := HA.out
  clear HA
  simp only [ipv4_inRange.j0] at H
  by_cases c20 : x31_1 = true
  ·subst c20
   rw [if_pos rfl] at H
   obtain rfl := Option.some.inj H
   go_wp2
   go_ret
   exact ⟨kE, by exact kB1 HB.out GE202.out⟩
  replace c20 := Bool.eq_false_iff.mpr c20
  subst c20
  rw [if_neg (show ¬ (false = true) by decide)] at H
  replace H := bS H
  obtain ⟨t208, A21, H⟩ := H
  by_cases c22 : t208 = true
  ·subst c22
   rw [if_pos rfl] at H
   replace H := bS H
   obtain ⟨t209, A23, H⟩ := H
   by_cases c24 : t209 = true
   ·subst c24
    rw [if_pos rfl] at H
    replace H := bS H
    obtain ⟨t210, A25, H⟩ := H
    obtain rfl := Option.some.inj H
    have hcz26_0 := cells_15 BK202.out
    have hfz26_0 := fun j_ => blk_frozen BK202.out j_
    go_wp2_with (first | ((with_reducible refine gate_callee (f := 60) rfl ?_); refine goesL_ (some 34) rfl rfl Try.func60 (by kernel_rfl) rfl #[.agg #[.bool b7, .int .u64 b8, .int .u64 b9]] rfl kA ?_; (with_reducible refine (ipv4_host.calls b7 b8 b9 true _ A21.out).mono ?_); rintro e w27 ⟨rfl, hb⟩; refine ⟨_, rfl, ?_⟩; replace BK202 := As (blk_below (kb BK202.out) hb); replace HB := As (below_step (kB1 HB.out GE202.out) hb); (try clear hb); have hcz28_0 := cells_15 BK202.out; have hfz28_0 := fun j_ => blk_frozen BK202.out j_) | (go_at_call 60; (with_reducible refine (ipv4_host.calls b10 b11 b12 true _ A23.out).mono ?_); rintro e w29 ⟨rfl, hb⟩; replace BK202 := As (blk_below (kb BK202.out) hb); replace HB := As (below_step (kB1 HB.out GE202.out) hb); (try clear hb); have hcz30_0 := cells_15 BK202.out; have hfz30_0 := fun j_ => blk_frozen BK202.out j_) | (go_at_call 46; (with_reducible refine (api_Option_46.calls kj1 _ _ l0_13 t210 _ ?side1 ?side2 A25.out).mono ?_); (case side1 => repeat (first | exact (Kd.C_below HR0_13.out HB.out) | (with_reducible refine Kd.C_alloc ?_ _) | (with_reducible refine Kd.C_drewN ?_ _) | (with_reducible refine Kd.C_drew ?_))); (case side2 => exact HC0_13.out); rintro e w31 ⟨rfl, hb⟩; replace BK202 := As (blk_below (kb BK202.out) hb); replace HB := As (below_step (kB1 HB.out GE202.out) hb); (try clear hb)))
    go_ret
    exact ⟨kE, by exact kB1 HB.out GE202.out⟩
   replace c24 := Bool.eq_false_iff.mpr c24
   subst c24
   rw [if_neg (show ¬ (false = true) by decide)] at H
   obtain rfl := Option.some.inj H
   have hcz32_0 := cells_15 BK202.out
   have hfz32_0 := fun j_ => blk_frozen BK202.out j_
   go_wp2_with (first | ((with_reducible refine gate_callee (f := 60) rfl ?_); refine goesL_ (some 34) rfl rfl Try.func60 (by kernel_rfl) rfl #[.agg #[.bool b7, .int .u64 b8, .int .u64 b9]] rfl kA ?_; (with_reducible refine (ipv4_host.calls b7 b8 b9 true _ A21.out).mono ?_); rintro e w33 ⟨rfl, hb⟩; refine ⟨_, rfl, ?_⟩; replace BK202 := As (blk_below (kb BK202.out) hb); replace HB := As (below_step (kB1 HB.out GE202.out) hb); (try clear hb); have hcz34_0 := cells_15 BK202.out; have hfz34_0 := fun j_ => blk_frozen BK202.out j_) | (go_at_call 60; (with_reducible refine (ipv4_host.calls b10 b11 b12 false _ A23.out).mono ?_); rintro e w35 ⟨rfl, hb⟩; replace BK202 := As (blk_below (kb BK202.out) hb); replace HB := As (below_step (kB1 HB.out GE202.out) hb); (try clear hb)))
   go_ret
   exact ⟨kE, by exact kB1 HB.out GE202.out⟩
  replace c22 := Bool.eq_false_iff.mpr c22
  subst c22
  rw [if_neg (show ¬ (false = true) by decide)] at H
  obtain rfl := Option.some.inj H
  have hcz36_0 := cells_15 BK202.out
  have hfz36_0 := fun j_ => blk_frozen BK202.out j_
  go_wp2_with (first | ((with_reducible refine gate_callee (f := 60) rfl ?_); refine goesL_ (some 34) rfl rfl Try.func60 (by kernel_rfl) rfl #[.agg #[.bool b7, .int .u64 b8, .int .u64 b9]] rfl kA ?_; (with_reducible refine (ipv4_host.calls b7 b8 b9 false _ A21.out).mono ?_); rintro e w37 ⟨rfl, hb⟩; refine ⟨_, rfl, ?_⟩; replace BK202 := As (blk_below (kb BK202.out) hb); replace HB := As (below_step (kB1 HB.out GE202.out) hb); (try clear hb)))
  go_ret
  exact ⟨kE, by exact kB1 HB.out GE202.out⟩

/-! ### field_Put: function 37 -/
mutual
def field_Put.j0 : Nat → Int → Int → Bool → Option (ByteArray)
 | 0, _, _, _ => none
 | k + 1, x0, x1, x20 => if x20 = true then (some (⟨#[]⟩ : ByteArray)) else (if 0 ≤ x1 then (if (x1 : Int).toNat ≤ 281474976710656 then (field_Put.l0 k x0 x1 (List.replicate (x1 : Int).toNat 0) x1 0) else (none)) else (none))
def field_Put.l0 : Nat → Int → Int → List Int → Int → Int → Option (ByteArray)
 | 0, _, _, _, _, _ => none
 | k + 1, x0, x1, x5, x23, x24 => if x24 < x23 then (if 0 ≤ (wrap64 (8 * x24)) then (if 0 ≤ (wrap64 ((wrap64 (x1 - 1)) - x24)) then (if (wrap64 ((wrap64 (x1 - 1)) - x24)) < (x5.length : Int) then (field_Put.l0 k x0 x1 (x5.set ((wrap64 ((wrap64 (x1 - 1)) - x24)) : Int).toNat ((shr .i64 x0 (wrap64 (8 * x24))) % 256)) x23 (wrap64 (x24 + 1))) else (none)) else (none)) else (none)) else (some (strOfNums x5))
end
def field_Put.f (k : Nat) (a0 : Int) (a1 : Int) : Option (ByteArray) := (field_valid.f a1).bind fun t211 => (if t211 = true then (if a0 < 0 then (field_Put.j0 k a0 a1 true) else (if 0 ≤ (wrap64 (8 * a1)) then (field_Put.j0 k a0 a1 ((shr .i64 a0 (wrap64 (8 * a1))) != 0)) else (none))) else (field_Put.j0 k a0 a1 true))
theorem field_Put.mono_l : ∀ k, (∀ y0 y1 y2, LeO (field_Put.j0 k y0 y1 y2) (field_Put.j0 (k + 1) y0 y1 y2)) ∧ (∀ y0 y1 y2 y3 y4, LeO (field_Put.l0 k y0 y1 y2 y3 y4) (field_Put.l0 (k + 1) y0 y1 y2 y3 y4))
 | 0 => ⟨fun _ _ _ r h => by simp [field_Put.j0] at h, fun _ _ _ _ _ r h => by simp [field_Put.l0] at h⟩
 | k + 1 => by
  obtain ⟨ih0, ih1⟩ := field_Put.mono_l k
  refine ⟨?_, ?_⟩
  ·intro y0 y1 y2
   unfold field_Put.j0
   repeat' first | with_reducible first | apply ih0 | apply ih1 | apply LeO.refl | apply LeO.none | refine LeO.ite ?_ ?_ | refine LeO.bind ?_ (fun _ => ?_)
  intro y0 y1 y2 y3 y4
  unfold field_Put.l0
  repeat' first | with_reducible first | apply ih0 | apply ih1 | apply LeO.refl | apply LeO.none | refine LeO.ite ?_ ?_ | refine LeO.bind ?_ (fun _ => ?_)
theorem field_Put.mono : ∀ a0 a1 k, LeO (field_Put.f k a0 a1) (field_Put.f (k + 1) a0 a1) := by
 intro a0 a1 k
 obtain ⟨ih0, ih1⟩ := field_Put.mono_l k
 unfold field_Put.f
 repeat' first | with_reducible first | apply ih0 | apply ih1 | apply LeO.refl | apply LeO.none | refine LeO.ite ?_ ?_ | refine LeO.bind ?_ (fun _ => ?_)
set_option maxHeartbeats 8000000 in
set_option maxRecDepth 100000 in
theorem field_Put.calls (k : Nat) (a0 : Int) (a1 : Int) (r : ByteArray) (w : World) (h : field_Put.f k a0 a1 = some r) :
  Calls Try.prog 37 #[.int .i64 a0, .int .i64 a1] w fun e w' => e = .returned (.string r) ∧ Below w.heap.size w w' := by
 have HB := As (Below.refl w.heap.size w)
 have H : ((field_valid.f a1).bind fun t211 => (if t211 = true then (if a0 < 0 then (field_Put.j0 k a0 a1 true) else (if 0 ≤ (wrap64 (8 * a1)) then (field_Put.j0 k a0 a1 ((shr .i64 a0 (wrap64 (8 * a1))) != 0)) else (none))) else (field_Put.j0 k a0 a1 true))) = some r := h
 clear h
 have HC3 := As H
 clear H
 go_enter Try.func37, Try.ntmps37
 go_upto_region 1 with (fail)
 go_cut [20] (fun v20 wc => ∃ (kq : Nat) (x20_2 : Bool), v20 = .bool x20_2 ∧ Aside0 (field_Put.j0 kq a0 a1 x20_2 = some r) ∧ Aside0 (kq ≤ k) ∧ Aside0 (Below w.heap.size w wc))
 case first =>
  have H := HC3.out
  clear HC3
  replace H := bS H
  obtain ⟨t211, A4, H⟩ := H
  by_cases c5 : t211 = true
  ·subst c5
   rw [if_pos rfl] at H
   by_cases c6 : a0 < 0
   ·rw [if_pos c6] at H
    have c6b0 : decide (a0 < 0) = true := decide_eq_true c6
    clear c6
    (first | rw [c6b0] | (simp only [i64_w, i32_w]; rw [c6b0]) | skip)
    have H' := As H
    clear H
    go_wp2_with (first | ((with_reducible refine gate_callee (f := 55) rfl ?_); refine goesL_ (some 8) rfl rfl Try.func55 (by kernel_rfl) rfl #[.int .i64 a1] rfl kA ?_; (with_reducible refine (field_valid.calls a1 true _ A4.out).mono ?_); rintro e w' ⟨rfl, ⟨nd, rfl⟩⟩; refine ⟨_, rfl, ?_⟩))
    go_meet
    case rel => exact ⟨_, (true), kS, H', ⟨by first | omega | exact Nat.le_refl _⟩, ⟨kB HB.out⟩⟩
   rw [if_neg c6] at H
   have c6b0 : decide (a0 < 0) = false := decide_eq_false c6
   clear c6
   (first | rw [c6b0] | (simp only [i64_w, i32_w]; rw [c6b0]) | skip)
   obtain ⟨ji7, hji7⟩ : ∃ j_ : Int, (wrap64 (8 * a1)) = j_ := ⟨_, rfl⟩
   replace H : (if 0 ≤ (ji7) then (field_Put.j0 k a0 a1 ((shr .i64 a0 (ji7)) != 0)) else (none)) = some r := by first | (rw [hji7] at H; exact H) | (simp only [hji7] at H ⊢; exact H)
   (try rw [hji7] at A4)
   have hji7w : (IntKind.i64.wrap (8 * a1)) = ji7 := (i64_w _).trans hji7
   replace H := iS H
   obtain ⟨c8, H⟩ := H
   have c8b0 := eq_true c8
   have c8b1 := decide_eq_true c8
   clear c8
   obtain ⟨ji9, hji9⟩ : ∃ j_ : Int, (shr .i64 a0 (ji7)) = j_ := ⟨_, rfl⟩
   replace H : (field_Put.j0 k a0 a1 ((ji9) != 0)) = some r := by first | (rw [hji9] at H; exact H) | (simp only [hji9] at H ⊢; exact H)
   (try rw [hji9] at A4)
   have hji9_ : (a0 / 2 ^ min (ji7).toNat 64) = ji9 := hji9
   have hji9z : (ji7) ≤ 64 → (a0 / 2 ^ (ji7).toNat) = ji9 := shr_small hji9
   have H' := As H
   clear H
   go_wp2_with (first | ((with_reducible refine gate_callee (f := 55) rfl ?_); refine goesL_ (some 8) rfl rfl Try.func55 (by kernel_rfl) rfl #[.int .i64 a1] rfl kA ?_; (with_reducible refine (field_valid.calls a1 true _ A4.out).mono ?_); rintro e w' ⟨rfl, ⟨nd, rfl⟩⟩; refine ⟨_, rfl, ?_⟩))
   go_meet
   case rel => exact ⟨_, (((ji9) != 0)), (by first | rfl | (simp; done) | (simp only [← hji9] <;> (first | rfl | simp)) | (simp [*]; done)), H', ⟨by first | omega | exact Nat.le_refl _⟩, ⟨kB HB.out⟩⟩
  replace c5 := Bool.eq_false_iff.mpr c5
  subst c5
  rw [if_neg (show ¬ (false = true) by decide)] at H
  have H' := As H
  clear H
  go_wp2_with (first | ((with_reducible refine gate_callee (f := 55) rfl ?_); refine goesL_ (some 8) rfl rfl Try.func55 (by kernel_rfl) rfl #[.int .i64 a1] rfl kA ?_; (with_reducible refine (field_valid.calls a1 false _ A4.out).mono ?_); rintro e w' ⟨rfl, ⟨nd, rfl⟩⟩; refine ⟨_, rfl, ?_⟩))
  go_meet
  case rel => exact ⟨_, (true), kS, H', ⟨by first | omega | exact Nat.le_refl _⟩, ⟨kB HB.out⟩⟩
 clear HC3
 obtain ⟨kq, x20_2, rfl, HA, HJ2, HB⟩ := hcut
 cases kq with
 | zero => exact absurd HA.out (by simp [field_Put.j0])
 | succ kj2 =>
  have H := HA.out
  clear HA
  simp only [field_Put.j0] at H
  by_cases c10 : x20_2 = true
  ·subst c10
   rw [if_pos rfl] at H
   obtain rfl := Option.some.inj H
   go_wp2
   go_ret
   exact ⟨kE, by exact kB HB.out⟩
  replace c10 := Bool.eq_false_iff.mpr c10
  subst c10
  rw [if_neg (show ¬ (false = true) by decide)] at H
  replace H := iS H
  obtain ⟨c11, H⟩ := H
  have c11b0 := eq_true c11
  have c11b1 := decide_eq_true c11
  clear c11
  replace H := iS H
  obtain ⟨c12, H⟩ := H
  have c12b0 := eq_true c12
  have c12b1 := decide_eq_true c12
  clear c12
  obtain ⟨y212, hy212⟩ : ∃ y_ : List Int, y_ = (List.replicate (a1 : Int).toNat 0) := ⟨_, rfl⟩
  replace H : (field_Put.l0 kj2 a0 a1 y212 a1 0) = some r := by first | (rw [hy212]; with_reducible exact H) | (have H2_ := (Option.bind_some _ _).symm.trans H; rw [hy212]; with_reducible exact H2_) | (have H2_ := (Option.bind_some _ _).symm.trans H; with_reducible exact H2_) | with_reducible exact H | (rw [hy212]; exact H) | exact H
  have Ny212 := As hy212
  clear hy212
  have H' := As H
  clear H
  go_wp2_with (first | ((with_reducible refine gate_dst (N := 22) rfl ?_); refine Kd.R_make (Kd.int .u8) _ 5 rfl (N := 22) rfl 46 _ _ rfl a1 rfl rfl Try.underlying46 (.int .u8 0) 1 info5 rfl (by decide) (by omega) 0 (ok := fun _ => True) (okp := fun _ => True) rfl (fun _ hk => hk) trivial (of_decide_eq_true (by first | (with_reducible assumption) | assumption)) (Nat.le_trans (Nat.mul_le_mul_right _ (of_decide_eq_true (by first | (with_reducible assumption) | assumption) : a1.toNat ≤ 281474976710656)) (by omega)) (Below.refl _ _) (Nat.le_refl _) ?_; intro v213 w13 ho14 hb hg_ hnew_; clear hg_ hnew_; (first | rw [← Ny212.out] at ho14 | (simp only [Int.reduceToNat] at ho14; rw [← Ny212.out] at ho14)); have HO214 := As (Kd.R_lower ho14 (below_size (kB HB.out))); replace HB := As (below_step (kB HB.out) hb); clear hb ho14))
  go_loopg [24] kj2 (fun kq v24 w' => ∃ (x5_2 : List Int) (x24_2 : Int), v24 = .int .i64 x24_2 ∧ Aside0 (field_Put.l0 kq a0 a1 x5_2 a1 x24_2 = some r) ∧ Aside0 (kq ≤ kj2) ∧ Aside0 (Kd.R (Kd.int .u8) 5 w' w.heap.size (fun _ => True) v213 x5_2) ∧ Aside0 (Below w.heap.size w w'))
  case atStart => exact ⟨(y212), (0), kS, H', ⟨Nat.le_refl _⟩, ⟨by (with_reducible repeat (first | apply Kd.R_alloc | apply Kd.R_drewN | apply Kd.R_drew)); exact HO214.out⟩, ⟨kB HB.out⟩⟩
  clear H'
  try clear c10
  try clear c11
  try clear c11b0
  try clear c11b1
  try clear c12
  try clear c12b0
  try clear c12b1
  obtain ⟨x5_2, x24_2, rfl, HA, HK2, HO_5, HB⟩ := hrel
  cases gk with
  | zero => exact absurd HA.out (by simp [field_Put.l0])
  | succ k2 =>
   have H := HA.out
   clear HA
   simp only [field_Put.l0] at H
   by_cases c15 : x24_2 < a1
   ·rw [if_pos c15] at H
    have c15b0 : decide (x24_2 < a1) = true := decide_eq_true c15
    clear c15
    obtain ⟨ji16, hji16⟩ : ∃ j_ : Int, (wrap64 (8 * x24_2)) = j_ := ⟨_, rfl⟩
    replace H : (if 0 ≤ (ji16) then (if 0 ≤ (wrap64 ((wrap64 (a1 - 1)) - x24_2)) then (if (wrap64 ((wrap64 (a1 - 1)) - x24_2)) < (x5_2.length : Int) then (field_Put.l0 k2 a0 a1 (x5_2.set ((wrap64 ((wrap64 (a1 - 1)) - x24_2)) : Int).toNat ((shr .i64 a0 (ji16)) % 256)) a1 (wrap64 (x24_2 + 1))) else (none)) else (none)) else (none)) = some r := by first | (rw [hji16] at H; exact H) | (simp only [hji16] at H ⊢; exact H)
    have hji16w : (IntKind.i64.wrap (8 * x24_2)) = ji16 := (i64_w _).trans hji16
    replace H := iS H
    obtain ⟨c17, H⟩ := H
    have c17b0 := eq_true c17
    have c17b1 := decide_eq_true c17
    clear c17
    obtain ⟨ji18, hji18⟩ : ∃ j_ : Int, (shr .i64 a0 (ji16)) = j_ := ⟨_, rfl⟩
    replace H : (if 0 ≤ (wrap64 ((wrap64 (a1 - 1)) - x24_2)) then (if (wrap64 ((wrap64 (a1 - 1)) - x24_2)) < (x5_2.length : Int) then (field_Put.l0 k2 a0 a1 (x5_2.set ((wrap64 ((wrap64 (a1 - 1)) - x24_2)) : Int).toNat ((ji18) % 256)) a1 (wrap64 (x24_2 + 1))) else (none)) else (none)) = some r := by first | (rw [hji18] at H; exact H) | (simp only [hji18] at H ⊢; exact H)
    have hji18_ : (a0 / 2 ^ min (ji16).toNat 64) = ji18 := hji18
    have hji18z : (ji16) ≤ 64 → (a0 / 2 ^ (ji16).toNat) = ji18 := shr_small hji18
    obtain ⟨ji19, hji19⟩ : ∃ j_ : Int, (wrap64 ((wrap64 (a1 - 1)) - x24_2)) = j_ := ⟨_, rfl⟩
    replace H : (if 0 ≤ (ji19) then (if (ji19) < (x5_2.length : Int) then (field_Put.l0 k2 a0 a1 (x5_2.set ((ji19) : Int).toNat ((ji18) % 256)) a1 (wrap64 (x24_2 + 1))) else (none)) else (none)) = some r := by first | (rw [hji19] at H; exact H) | (simp only [hji19] at H ⊢; exact H)
    have hji19w : (IntKind.i64.wrap ((wrap64 (a1 - 1)) - x24_2)) = ji19 := (i64_w _).trans hji19
    replace H := iS H
    obtain ⟨c20, H⟩ := H
    have c20b0 := decide_eq_true c20
    clear c20
    replace H := iS H
    obtain ⟨c21, H⟩ := H
    have c21b0 := decide_eq_true c21
    clear c21
    obtain ⟨y215, hy215⟩ : ∃ y_ : List Int, y_ = (x5_2.set ((ji19) : Int).toNat ((ji18) % 256)) := ⟨_, rfl⟩
    replace H : (field_Put.l0 k2 a0 a1 y215 a1 (wrap64 (x24_2 + 1))) = some r := by first | (rw [hy215]; with_reducible exact H) | (have H2_ := (Option.bind_some _ _).symm.trans H; rw [hy215]; with_reducible exact H2_) | (have H2_ := (Option.bind_some _ _).symm.trans H; with_reducible exact H2_) | with_reducible exact H | (rw [hy215]; exact H) | exact H
    have Ny215 := As hy215
    clear hy215
    have H' := As H
    clear H
    have p22 : 0 ≤ ((ji19) : Int) := of_decide_eq_true (by first | (with_reducible assumption) | assumption)
    have q22 : ((ji19) : Int) < ((x5_2.length : Int) : Int) := of_decide_eq_true (by first | (with_reducible assumption) | assumption)
    obtain ⟨go22, co22, eo22, gb22, gl22, cl22, HG22⟩ := Kd.R_form HO_5.out (by omega)
    (first | cases eo22 | (injection eo22 with ea_ en_ ec_; (first | subst ea_ | (injection ea_ with ea_; subst ea_)); subst ec_; clear en_))
    have GB22 := As gb22
    have GG22 := As HG22
    clear gb22 gl22 HG22
    obtain ⟨hx22_0, hf22_0⟩ := Kd.R_celln 0 HO_5.out ((ji19) : Int) p22 q22
    replace p22 := eq_true p22
    replace q22 := eq_true q22
    have HP23 := Kd.R_putg HO_5.out ((ji19) : Int) ((ji18) % 256)
    go_wp2_with (first | ((with_reducible refine gate_store (t := 5) (p := 37) rfl ?_); refine store_event (t := 5) (p := 37) (v := ?vo_w24) (w1 := (wr.setCell ⟨go22, ((ji19) : Int).toNat, none⟩ (.int .u8 ((ji18) % 256)))) ?hg ?ho ?hn ?hr ?_; (case ho => rfl); (case hg => rfl); (case hn => rfl); (case hr => first | (go_simp; done) | (go_simp; rfl)); intro w24 hw; have hg : wr.grownBy w24 (some go22) := (by rw [hw]; exact HP23.2); have hp_ : Kd.R (Kd.int .u8) 5 w24 w.heap.size (fun _ => True) (.slice (some ⟨go22, 0, none⟩) x5_2.length co22) y215 := (by rw [hw, Ny215.out]; exact HP23.1); clear HP23; replace HO_5 := As (hp_); replace HB := As ((by rw [hw]; exact below_set (HB.out) GB22.out : Below w.heap.size w w24)); clear hg hw hp_))
    go_roundg k2
    case measure => have := HJ2.out; have := HK2.out; omega
    case rel => exact ⟨(y215), (wrap64 (x24_2 + 1)), kS, H', ⟨by have := HJ2.out; have := HK2.out; omega⟩, ⟨by (with_reducible repeat (first | apply Kd.R_alloc | apply Kd.R_drewN | apply Kd.R_drew)); exact HO_5.out⟩, ⟨kB HB.out⟩⟩
   rw [if_neg c15] at H
   have c15b0 : decide (x24_2 < a1) = false := decide_eq_false c15
   clear c15
   obtain rfl := Option.some.inj H
   have hcv25 := own_string (P := Try.prog) Try.underlying46 Try.underlying5 Try.underlying9 (Kd.own_of_R HO_5.out)
   go_wp2
   go_ret
   exact ⟨kE, by exact kB HB.out⟩

end Go.Proofs.Ytobioaommmgehaa.Z
-- short
-- short2
