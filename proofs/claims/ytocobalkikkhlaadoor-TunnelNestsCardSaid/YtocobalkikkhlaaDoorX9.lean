/- Functions and their walks, printed by xprint.py. -/
import Derived.Test.YtocobalkikkhlaaDoorX0
import Derived.Test.YtocobalkikkhlaaDoorX4
namespace Go.Proofs.YtocobalkikkhlaaDoor.X
open Go.RowKit Go.Proofs.YtocobalkikkhlaaDoorW.PrintWords Go.Proofs.YtocobalkikkhlaaDoorW.PrintLast Go.Proofs.YtocobalkikkhlaaDoorW.PrintMore
attribute [local go_sem] max2_int min2_int max_two min_two max_three min_three max_four min_four   -- for this text's walks alone
set_option linter.unusedVariables false
set_option linter.unusedSimpArgs false

/-! ### ipv6_join: function 60 -/
def ipv6_join.l0 : Nat → ByteArray → List (S93) → Int → Int → Option (ByteArray)
 | 0, _, _, _, _ => none
 | k + 1, x3, x6, x7, x8 => if x8 < x7 then (if 0 ≤ x8 then (if x8 < (x6.length : Int) then ((field_Put.f k ((rd_T93 x6 x8).f0) ((rd_T93 x6 x8).f1)).bind fun t267 => (if x3.size + t267.size ≤ 9223372036854775807 then (ipv6_join.l0 k (x3 ++ t267) x6 x7 (wrap64 (x8 + 1))) else (none))) else (none)) else (none)) else (some x3)
def ipv6_join.f (k : Nat) (l0 : List (S93)) : Option (ByteArray) := ipv6_join.l0 k (⟨#[]⟩ : ByteArray) l0 (l0.length : Int) 0
theorem ipv6_join.mono_l : ∀ k, (∀ y0 y1 y2 y3, LeO (ipv6_join.l0 k y0 y1 y2 y3) (ipv6_join.l0 (k + 1) y0 y1 y2 y3))
 | 0 => fun _ _ _ _ r h => by simp [ipv6_join.l0] at h
 | k + 1 => by
  have ih0 := ipv6_join.mono_l k
  intro y0 y1 y2 y3
  unfold ipv6_join.l0
  repeat' first | with_reducible first | apply ih0 | apply field_Put.mono | apply LeO.refl | apply LeO.none | refine LeO.ite ?_ ?_ | refine LeO.bind ?_ (fun _ => ?_)
theorem ipv6_join.mono : ∀ a0 k, LeO (ipv6_join.f k a0) (ipv6_join.f (k + 1) a0) := by
 intro a0 k
 have ih0 := ipv6_join.mono_l k
 unfold ipv6_join.f
 repeat' first | with_reducible first | apply ih0 | apply field_Put.mono | apply LeO.refl | apply LeO.none | refine LeO.ite ?_ ?_ | refine LeO.bind ?_ (fun _ => ?_)
set_option maxHeartbeats 8000000 in
set_option maxRecDepth 100000 in
theorem ipv6_join.calls (k : Nat) (A0 : Option Addr) (c0 : Nat) (l0 : List (S93)) (r : ByteArray) (w : World) (hr0 : Kd.C k93 w A0 l0.length l0) (hc0 : l0.length ≤ c0) (h : ipv6_join.f k l0 = some r) :
  Calls Tryd.prog 60 #[.slice A0 l0.length c0] w fun e w' => e = .returned (.string r) ∧ Below w.heap.size w w' := by
 have hu93 := Tryd.underlying93
 have HR0 := As hr0
 have HC0 := As hc0
 clear hr0 hc0
 have HB := As (Below.refl w.heap.size w)
 have H : (ipv6_join.l0 k (⟨#[]⟩ : ByteArray) l0 (l0.length : Int) 0) = some r := h
 clear h
 have H' := As H
 clear H
 go_enter Tryd.func60, Tryd.ntmps60
 go_wp2
 go_loopg [3, 8] k (fun kq v3 v8 w' => ∃ (x3_1 : ByteArray) (x8_1 : Int), v3 = .string x3_1 ∧ v8 = .int .i64 x8_1 ∧ Aside0 (ipv6_join.l0 kq x3_1 l0 (l0.length : Int) x8_1 = some r) ∧ Aside0 (kq ≤ k) ∧ Aside0 (Below w.heap.size w w'))
 case atStart => exact ⟨((⟨#[]⟩ : ByteArray)), (0), kS, kS, H', ⟨Nat.le_refl _⟩, ⟨kB HB.out⟩⟩
 clear H'
 obtain ⟨x3_1, x8_1, rfl, rfl, HA, HK1, HB⟩ := hrel
 cases gk with
 | zero => exact absurd HA.out (by simp [ipv6_join.l0])
 | succ k1 =>
  have H := HA.out
  clear HA
  simp only [ipv6_join.l0] at H
  by_cases c2 : x8_1 < (l0.length : Int)
  ·rw [if_pos c2] at H
   have c2b0 : decide (x8_1 < (l0.length : Int)) = true := decide_eq_true c2
   clear c2
   replace H := iS H
   obtain ⟨c3, H⟩ := H
   have c3b0 := decide_eq_true c3
   clear c3
   replace H := iS H
   obtain ⟨c4, H⟩ := H
   have c4b0 := decide_eq_true c4
   clear c4
   replace H := bS H
   obtain ⟨t267, A5, H⟩ := H
   replace H := iS H
   obtain ⟨c6, H⟩ := H
   have c6b0 := eq_true c6
   have c6b1 := decide_eq_true c6
   try have c6b2 := eq_false (Nat.not_lt.2 c6)
   have H' := As H
   clear H
   have p265 : 0 ≤ (x8_1 : Int) := of_decide_eq_true (by first | (with_reducible assumption) | assumption)
   have q265 : x8_1 < (l0.length : Int) := of_decide_eq_true (by first | (with_reducible assumption) | assumption)
   obtain ⟨ad265, e265, hx265_0, hx265_1⟩ := at_T93 HR0.out x8_1 p265 q265
   cases e265
   replace hx265_0 := hcell HB.out hx265_0
   replace hx265_1 := hcell HB.out hx265_1
   replace p265 := eq_true p265
   replace q265 := eq_true q265
   go_wp2_with (first | ((with_reducible refine gate_dst (N := 5) rfl ?_); refine box_event rfl (N := 5) rfl (cs := #[.int .i64 0, .int .i64 0]) (t := 93) kG ?_; intro gb266 hg w7 hbox hb; have BK266 := As (hbox); have GW266 := As (gS hg (below_size (kB HB.out))); have GE266 := As (gS hg (below_size (kB HB.out))); replace HB := As (below_step (kB HB.out) hb); clear hb hbox hg; have hcz8_0 := cells_2 BK266.out; have hfz8_0 := fun j_ => blk_frozen BK266.out j_) | ((with_reducible refine gate_callee (f := 27) rfl ?_); refine goesL_ (some 17) rfl rfl Tryd.func27 (by kernel_rfl) rfl #[.int .i64 ((rd_T93 l0 x8_1).f0), .int .i64 ((rd_T93 l0 x8_1).f1)] rfl kA ?_; (with_reducible refine (field_Put.calls k1 ((rd_T93 l0 x8_1).f0) ((rd_T93 l0 x8_1).f1) t267 _ A5.out).mono ?_); rintro e w9 ⟨rfl, hb⟩; refine ⟨_, rfl, ?_⟩; replace BK266 := As (blk_below (g := gb266) (o := .cells #[.int .i64 ((rd_T93 l0 x8_1).f0), .int .i64 ((rd_T93 l0 x8_1).f1)] 93 (0, 0)) (by refine kb ?_; refine blk_put (cs := #[.int .i64 ((rd_T93 l0 x8_1).f0), .int .i64 0]) ?_ 1 _ rfl; refine kb ?_; refine blk_put (cs := #[.int .i64 0, .int .i64 0]) ?_ 0 _ rfl; exact kb BK266.out) hb); replace HB := As (below_step (kB1 HB.out GE266.out) hb); (try clear hb)))
   go_roundg k1
   case measure => have := HK1.out; omega
   case rel => exact ⟨(x3_1 ++ t267), (wrap64 (x8_1 + 1)), kS, kS, H', ⟨by have := HK1.out; omega⟩, ⟨kB1 HB.out GE266.out⟩⟩
  rw [if_neg c2] at H
  have c2b0 : decide (x8_1 < (l0.length : Int)) = false := decide_eq_false c2
  clear c2
  obtain rfl := Option.some.inj H
  go_wp2
  go_ret
  exact ⟨kE, by exact kB HB.out⟩

/-! ### address_bytes: function 97 -/
def address_bytes.l0 : Nat → Int → Int → List Int → Int → Int → Option (ByteArray)
 | 0, _, _, _, _, _ => none
 | k + 1, x0, x1, x5, x7, x8 => if x8 < x7 then (if 0 ≤ (wrap64 (8 * (wrap64 ((wrap64 (x1 - 1)) - x8)))) then (if x5.length < 140737488355328 then (address_bytes.l0 k x0 x1 (x5 ++ [(shr .u64 x0 (wrap64 (8 * (wrap64 ((wrap64 (x1 - 1)) - x8))))) % 256]) x7 (wrap64 (x8 + 1))) else (none)) else (none)) else (some (strOfNums x5))
def address_bytes.f (k : Nat) (a0 : Int) (a1 : Int) : Option (ByteArray) := address_bytes.l0 k a0 a1 ([] : List Int) a1 0
theorem address_bytes.mono_l : ∀ k, (∀ y0 y1 y2 y3 y4, LeO (address_bytes.l0 k y0 y1 y2 y3 y4) (address_bytes.l0 (k + 1) y0 y1 y2 y3 y4))
 | 0 => fun _ _ _ _ _ r h => by simp [address_bytes.l0] at h
 | k + 1 => by
  have ih0 := address_bytes.mono_l k
  intro y0 y1 y2 y3 y4
  unfold address_bytes.l0
  repeat' first | with_reducible first | apply ih0 | apply LeO.refl | apply LeO.none | refine LeO.ite ?_ ?_ | refine LeO.bind ?_ (fun _ => ?_)
theorem address_bytes.mono : ∀ a0 a1 k, LeO (address_bytes.f k a0 a1) (address_bytes.f (k + 1) a0 a1) := by
 intro a0 a1 k
 have ih0 := address_bytes.mono_l k
 unfold address_bytes.f
 repeat' first | with_reducible first | apply ih0 | apply LeO.refl | apply LeO.none | refine LeO.ite ?_ ?_ | refine LeO.bind ?_ (fun _ => ?_)
set_option maxHeartbeats 8000000 in
set_option maxRecDepth 100000 in
theorem address_bytes.calls (k : Nat) (a0 : Int) (a1 : Int) (r : ByteArray) (w : World) (h : address_bytes.f k a0 a1 = some r) :
  Calls Tryd.prog 97 #[.int .u64 a0, .int .i64 a1] w fun e w' => e = .returned (.string r) ∧ Below w.heap.size w w' := by
 have HB := As (Below.refl w.heap.size w)
 have H : (address_bytes.l0 k a0 a1 ([] : List Int) a1 0) = some r := h
 clear h
 have H' := As H
 clear H
 go_enter Tryd.func97, Tryd.ntmps97
 go_wp2
 go_loopg [5, 8] k (fun kq v5 v8 w' => ∃ (x5_1 : List Int) (x8_1 : Int), v8 = .int .i64 x8_1 ∧ Aside0 (address_bytes.l0 kq a0 a1 x5_1 a1 x8_1 = some r) ∧ Aside0 (kq ≤ k) ∧ Aside0 (Kd.R (Kd.int .u8) 5 w' w.heap.size (fun _ => True) v5 x5_1) ∧ Aside0 (Below w.heap.size w w'))
 case atStart => exact ⟨(([] : List Int)), (0), kS, H', ⟨Nat.le_refl _⟩, ⟨by first | exact Kd.R_nil _ _ _ _ _ | exact Kd.N_nil _ _ _ _ _ | exact Kd.V_nil _ _ _ _ _ | exact Kd.Q_nil _ _ _ _ _ | exact Kd.S_nil _ _ _ _ _⟩, ⟨kB HB.out⟩⟩
 clear H'
 obtain ⟨x5_1, x8_1, rfl, HA, HK1, HO_5, HB⟩ := hrel
 cases gk with
 | zero => exact absurd HA.out (by simp [address_bytes.l0])
 | succ k1 =>
  have H := HA.out
  clear HA
  simp only [address_bytes.l0] at H
  by_cases c3 : x8_1 < a1
  ·rw [if_pos c3] at H
   have c3b0 : decide (x8_1 < a1) = true := decide_eq_true c3
   clear c3
   obtain ⟨ji4, hji4⟩ : ∃ j_ : Int, (wrap64 (8 * (wrap64 ((wrap64 (a1 - 1)) - x8_1)))) = j_ := ⟨_, rfl⟩
   replace H : (if 0 ≤ (ji4) then (if x5_1.length < 140737488355328 then (address_bytes.l0 k1 a0 a1 (x5_1 ++ [(shr .u64 a0 (ji4)) % 256]) a1 (wrap64 (x8_1 + 1))) else (none)) else (none)) = some r := by first | (rw [hji4] at H; exact H) | (simp only [hji4] at H ⊢; exact H)
   have hji4w : (IntKind.i64.wrap (8 * (wrap64 ((wrap64 (a1 - 1)) - x8_1)))) = ji4 := (i64_w _).trans hji4
   replace H := iS H
   obtain ⟨c5, H⟩ := H
   have c5b0 := eq_true c5
   have c5b1 := decide_eq_true c5
   clear c5
   obtain ⟨ji6, hji6⟩ : ∃ j_ : Int, (shr .u64 a0 (ji4)) = j_ := ⟨_, rfl⟩
   replace H : (if x5_1.length < 140737488355328 then (address_bytes.l0 k1 a0 a1 (x5_1 ++ [(ji6) % 256]) a1 (wrap64 (x8_1 + 1))) else (none)) = some r := by first | (rw [hji6] at H; exact H) | (simp only [hji6] at H ⊢; exact H)
   have hji6_ : (a0 / 2 ^ min (ji4).toNat 64) = ji6 := hji6
   have hji6z : (ji4) ≤ 64 → (a0 / 2 ^ (ji4).toNat) = ji6 := shr_small hji6
   replace H := iS H
   obtain ⟨c7, H⟩ := H
   have LMc7 := As c7
   clear c7
   obtain ⟨y268, hy268⟩ : ∃ y_ : List Int, y_ = (x5_1 ++ [(ji6) % 256]) := ⟨_, rfl⟩
   replace H : (address_bytes.l0 k1 a0 a1 y268 a1 (wrap64 (x8_1 + 1))) = some r := by first | (rw [hy268]; with_reducible exact H) | (have H2_ := (Option.bind_some _ _).symm.trans H; rw [hy268]; with_reducible exact H2_) | (have H2_ := (Option.bind_some _ _).symm.trans H; with_reducible exact H2_) | with_reducible exact H | (rw [hy268]; exact H) | exact H
   have Ny268 := As hy268
   clear hy268
   have H' := As H
   clear H
   go_wp2_with (first | ((with_reducible refine gate_builtin (b := .append) (xs := #[.tmp 11, .tmp 20]) rfl ?_); at_builtin; refine Kd.R_append (Kd.int .u8) (w0 := w) w.heap.size rfl (.tmp 11) (.tmp 20) 47 5 (.int .u8 0) 1 rfl Tryd.underlying47 info5 rfl (by decide) (by omega) u5 x5_1 ((ji6) % 256) [.int .u8 ((ji6) % 256)] (fun _ => True) (fun _ => False) rfl rfl ?aP (fun _ hk => hk.elim) ?aF ?aO ?aB ?aS ?aL ?_; (case aP => exact rfl); (case aB => exact (kB HB.out)); (case aF => exact (fun _ _ => trivial)); (case aO => exact (kR HO_5.out)); (case aS => exact (below_size (kB HB.out))); (case aL => have := LMc7.out; omega); intro v269 w8 ho hb hg hat; rw [← Ny268.out] at ho; replace HB := As (hb); have HO270 := As (ho); clear HO_5; clear ho hb hg hat))
   go_roundg k1
   case measure => have := HK1.out; omega
   case rel => exact ⟨(y268), (wrap64 (x8_1 + 1)), kS, H', ⟨by have := HK1.out; omega⟩, ⟨by (with_reducible repeat (first | apply Kd.R_alloc | apply Kd.R_drewN | apply Kd.R_drew)); exact HO270.out⟩, ⟨kB HB.out⟩⟩
  rw [if_neg c3] at H
  have c3b0 : decide (x8_1 < a1) = false := decide_eq_false c3
  clear c3
  obtain rfl := Option.some.inj H
  have hcv9 := own_string (P := Tryd.prog) Tryd.underlying47 Tryd.underlying5 Tryd.underlying9 (Kd.own_of_R HO_5.out)
  go_wp2
  go_ret
  exact ⟨kE, by exact kB HB.out⟩

/-! ### address_Bytes: function 61 -/
def address_Bytes.f (k : Nat) (a0_0 : Bool) (a0_1 : Int) (a0_2 : Int) : Option (ByteArray) := if a0_0 = true then ((address_bytes.f k a0_1 8).bind fun t272 => ((address_bytes.f k a0_2 8).bind fun t273 => (if t272.size + t273.size ≤ 9223372036854775807 then (some (t272 ++ t273)) else (none)))) else ((address_bytes.f k a0_2 4).bind fun t274 => (some t274))
theorem address_Bytes.mono : ∀ a0 a1 a2 k, LeO (address_Bytes.f k a0 a1 a2) (address_Bytes.f (k + 1) a0 a1 a2) := by
 intro a0 a1 a2 k
 unfold address_Bytes.f
 repeat' first | with_reducible first | apply address_bytes.mono | apply LeO.refl | apply LeO.none | refine LeO.ite ?_ ?_ | refine LeO.bind ?_ (fun _ => ?_)
def address_Bytes.T2 : Bool × List (List Nat × List Nat) := (true, [([], []), ([0], [0]), ([1], [1]), ([], []), ([3], [3]), ([4, 2], [4]), ([2, 5], [2, 5]), ([6, 5, 0, 1, 2, 3, 4, 5, 6], [6])])
def address_Bytes.B2 : List Nat := [0, 1, 3, 0, 8, 31, 63, 127]
theorem address_Bytes.tab2 : rtab .any (opsOf Tryd.f61 2) = address_Bytes.T2 := by kernel_rfl
theorem address_Bytes.bits2 : waitsOk address_Bytes.T2.2 address_Bytes.B2 = true := by kernel_rfl
set_option maxHeartbeats 8000000 in
set_option maxRecDepth 100000 in
theorem address_Bytes.calls (k : Nat) (a0_0 : Bool) (a0_1 : Int) (a0_2 : Int) (r : ByteArray) (w : World) (h : address_Bytes.f k a0_0 a0_1 a0_2 = some r) :
  Calls Tryd.prog 61 #[.agg #[.bool a0_0, .int .u64 a0_1, .int .u64 a0_2]] w fun e w' => e = .returned (.string r) ∧ Below w.heap.size w w' := by
 have hu24 := Tryd.underlying24
 have HB := As (Below.refl w.heap.size w)
 have H : (if a0_0 = true then ((address_bytes.f k a0_1 8).bind fun t272 => ((address_bytes.f k a0_2 8).bind fun t273 => (if t272.size + t273.size ≤ 9223372036854775807 then (some (t272 ++ t273)) else (none)))) else ((address_bytes.f k a0_2 4).bind fun t274 => (some t274))) = some r := h
 clear h
 by_cases c2 : a0_0 = true
 ·subst c2
  rw [if_pos rfl] at H
  replace H := bS H
  obtain ⟨t272, A3, H⟩ := H
  replace H := bS H
  obtain ⟨t273, A4, H⟩ := H
  replace H := iS H
  obtain ⟨c5, H⟩ := H
  have c5b0 := eq_true c5
  have c5b1 := decide_eq_true c5
  try have c5b2 := eq_false (Nat.not_lt.2 c5)
  obtain rfl := Option.some.inj H
  go_enter Tryd.func61, Tryd.ntmps61
  try go_wp2_with (first | ((with_reducible refine gate_dst (N := 1) rfl ?_); refine box_event rfl (N := 1) rfl (cs := #[.bool true, .int .u64 a0_1, .int .u64 a0_2]) (t := 24) kG ?_; intro gb271 hg w6 hbox hb; have BK271 := As (hbox); have GW271 := As (gS hg (below_size (kB HB.out))); have GE271 := As (gS hg (below_size (kB HB.out))); replace HB := As (below_step (kB HB.out) hb); clear hb hbox hg; have hcz7_0 := cells_3 BK271.out; have hfz7_0 := fun j_ => blk_frozen BK271.out j_))
  replace BK271 := As (blk_drew BK271.out)
  replace HB := As (below_drew1 HB.out)
  refine start_ (n := 8) (S := fun w' => w'.cell? ⟨gb271, 0, none⟩ = some (.bool true) ∧ w'.cell? ⟨gb271, 1, none⟩ = some (.int .u64 a0_1) ∧ w'.cell? ⟨gb271, 2, none⟩ = some (.int .u64 a0_2)) (ds := []) #[O, O, O, O, O, O, O, O] (by kernel_rfl) rfl rfl ⟨kC BK271.out 0, kC BK271.out 1, kC BK271.out 2⟩ (fun hHeld => ?_); refine with_tabW address_Bytes.tab2 address_Bytes.bits2 (fun HT_ HW_ => ?_)
  generalize w6.drew = w8 at BK271 HB hHeld ⊢
  refine kP 0 5 #[I, O, O, O, O, O, O, O] ?_ (any_of HT_.out (by kernel_rfl))
  refine kP 3 8 #[I, O, O, I, O, O, O, O] ?_ (any_of HT_.out (by kernel_rfl))
  refine take_ (i := 1) (N := some 6) (v := ?_) (a' := ?_) #[I, I, O, I, O, O, O, O] rfl rfl (take_ofW HT_.out HW_.out (by kernel_rfl)) (fun _ _ _ h => h) (Or.inl ⟨by rfl, ?_⟩) hHeld ?_ ?_
  rotate_left
  ·rintro w' ⟨s0, s1, s2⟩
   go_simp
   with_reducible rfl
  rotate_left
  ·simp only [Act.put, sA, sZ, sS, i64_w, i32_w]
   rfl
  refine take_ (i := 4) (N := some 9) (v := ?_) (a' := ?_) #[I, I, O, I, I, O, O, O] rfl rfl (take_ofW HT_.out HW_.out (by kernel_rfl)) (fun _ _ _ h => h) (Or.inl ⟨by rfl, ?_⟩) hHeld ?_ ?_
  rotate_left
  ·rintro w' ⟨s0, s1, s2⟩
   go_simp
   with_reducible rfl
  rotate_left
  ·simp only [Act.put, sA, sZ, sS, i64_w, i32_w]
   rfl
  refine one_ (i := 2) (N := some 7) #[I, I, I, I, I, O, O, O] rfl rfl (one_of HT_.out (by kernel_rfl)) (by decide) (fun K hK => ?_)
  refine goes_ Tryd.func97 (by kernel_rfl) rfl #[.int .u64 a0_1, .int .i64 8] (by rfl) rfl rfl kA ?_
  with_reducible refine (address_bytes.calls k a0_1 8 t272 _ A3.out).mono ?_
  rintro e w9 ⟨rfl, hb⟩
  refine ⟨_, rfl, ?_⟩
  replace BK271 := As (blk_below (kb BK271.out) hb)
  replace HB := As (below_step (kB1 HB.out GE271.out) hb)
  (try clear hb)
  (try clear hb2)
  (try clear hk)
  (try clear hi)
  refine hK.out _ _ ⟨kC BK271.out 0, kC BK271.out 1, kC BK271.out 2⟩ (fun hHeld => ?_)
  clear hK K
  refine nP ?_
  refine one_ (i := 5) (N := some 10) #[I, I, I, I, I, I, O, O] rfl rfl (one_of HT_.out (by kernel_rfl)) (by decide) (fun K hK => ?_)
  refine goes_ Tryd.func97 (by kernel_rfl) rfl #[.int .u64 a0_2, .int .i64 8] (by rfl) rfl rfl kA ?_
  with_reducible refine (address_bytes.calls k a0_2 8 t273 _ A4.out).mono ?_
  rintro e w10 ⟨rfl, hb⟩
  refine ⟨_, rfl, ?_⟩
  replace BK271 := As (blk_below (kb BK271.out) hb)
  replace HB := As (below_step (kB1 HB.out GE271.out) hb)
  (try clear hb)
  (try clear hb2)
  (try clear hk)
  (try clear hi)
  refine hK.out _ _ ⟨kC BK271.out 0, kC BK271.out 1, kC BK271.out 2⟩ (fun hHeld => ?_)
  clear hK K
  refine nP ?_
  refine kP 6 11 #[I, I, I, I, I, I, I, O] ?_ (any_of HT_.out (by kernel_rfl))
  refine kP 7 2 #[I, I, I, I, I, I, I, I] ?_ (any_of HT_.out (by kernel_rfl))
  refine done_ (done_of HT_.out (by kernel_rfl)) ?_
  try go_wp2
  go_ret
  exact ⟨kE, by exact kB1 HB.out GE271.out⟩
 replace c2 := Bool.eq_false_iff.mpr c2
 subst c2
 rw [if_neg (show ¬ (false = true) by decide)] at H
 replace H := bS H
 obtain ⟨t274, A11, H⟩ := H
 obtain rfl := Option.some.inj H
 go_enter Tryd.func61, Tryd.ntmps61
 go_wp2_with (first | ((with_reducible refine gate_dst (N := 1) rfl ?_); refine box_event rfl (N := 1) rfl (cs := #[.bool false, .int .u64 a0_1, .int .u64 a0_2]) (t := 24) kG ?_; intro gb271 hg w12 hbox hb; have BK271 := As (hbox); have GW271 := As (gS hg (below_size (kB HB.out))); have GE271 := As (gS hg (below_size (kB HB.out))); replace HB := As (below_step (kB HB.out) hb); clear hb hbox hg; have hcz13_0 := cells_3 BK271.out; have hfz13_0 := fun j_ => blk_frozen BK271.out j_) | ((with_reducible refine gate_callee (f := 97) rfl ?_); refine goesL_ (some 14) rfl rfl Tryd.func97 (by kernel_rfl) rfl #[.int .u64 a0_2, .int .i64 4] rfl kA ?_; (with_reducible refine (address_bytes.calls k a0_2 4 t274 _ A11.out).mono ?_); rintro e w14 ⟨rfl, hb⟩; refine ⟨_, rfl, ?_⟩; replace BK271 := As (blk_below (kb BK271.out) hb); replace HB := As (below_step (kB1 HB.out GE271.out) hb); (try clear hb)))
 go_ret
 exact ⟨kE, by exact kB1 HB.out GE271.out⟩

end Go.Proofs.YtocobalkikkhlaaDoor.X
-- short
-- short2
