/- Functions and their walks, printed by xprint.py. -/
import Derived.Test.YtobioaommmgehaaZ0
import Derived.Test.YtobioaommmgehaaZ7
namespace Go.Proofs.Ytobioaommmgehaa.Z
open Go.RowKit Go.Proofs.YtobioaommmgehaaW.PrintWords Go.Proofs.YtobioaommmgehaaW.PrintLast Go.Proofs.YtobioaommmgehaaW.PrintMore
attribute [local go_sem] max2_int min2_int max_two min_two max_three min_three max_four min_four   -- for this text's walks alone
set_option linter.unusedVariables false
set_option linter.unusedSimpArgs false

/-! ### ipv4_Fragment: function 17 -/
def ipv4_Fragment.f (b0 : Int) (b1 : Int) (b2 : Int) (b3 : Int) (b4 : Bool) (b5 : Bool) (b6 : Int) (b7 : Bool) (b8 : Int) (b9 : Int) (b10 : Bool) (b11 : Int) (b12 : Int) (l0_13 : List (S50)) (b14 : ByteArray) : Option (Bool × Int × Int × Bool × Int × Int × Int × Int × Int × Int × Bool × ByteArray) := some (b7, b8, b9, b10, b11, b12, b3, b1, b2, b6, b5, b14)
set_option maxHeartbeats 8000000 in
set_option maxRecDepth 100000 in
theorem ipv4_Fragment.calls (b0 : Int) (b1 : Int) (b2 : Int) (b3 : Int) (b4 : Bool) (b5 : Bool) (b6 : Int) (b7 : Bool) (b8 : Int) (b9 : Int) (b10 : Bool) (b11 : Int) (b12 : Int) (A0_13 : Option Addr) (c0_13 : Nat) (l0_13 : List (S50)) (b14 : ByteArray) (r1 : Bool) (r2 : Int) (r3 : Int) (r4 : Bool) (r5 : Int) (r6 : Int) (r7 : Int) (r8 : Int) (r9 : Int) (r10 : Int) (r11 : Bool) (r12 : ByteArray) (w : World) (hr0_13 : Kd.C k50 w A0_13 l0_13.length l0_13) (hc0_13 : l0_13.length ≤ c0_13) (h : ipv4_Fragment.f b0 b1 b2 b3 b4 b5 b6 b7 b8 b9 b10 b11 b12 l0_13 b14 = some (r1, r2, r3, r4, r5, r6, r7, r8, r9, r10, r11, r12)) :
  Calls Try.prog 17 #[.agg #[.int .i64 b0, .int .i64 b1, .int .i64 b2, .int .i64 b3, .bool b4, .bool b5, .int .i64 b6, .bool b7, .int .u64 b8, .int .u64 b9, .bool b10, .int .u64 b11, .int .u64 b12, .slice A0_13 l0_13.length c0_13, .string b14]] w fun e w' => e = .returned (.agg #[.bool r1, .int .u64 r2, .int .u64 r3, .bool r4, .int .u64 r5, .int .u64 r6, .int .i64 r7, .int .i64 r8, .int .i64 r9, .int .i64 r10, .bool r11, .string r12]) ∧ Below w.heap.size w w' := by
 have hu28 := Try.underlying28
 have hu38 := Try.underlying38
 have hu25 := Try.underlying25
 have HR0_13 := As hr0_13
 have HC0_13 := As hc0_13
 clear hr0_13 hc0_13
 have HB := As (Below.refl w.heap.size w)
 have H : (some (b7, b8, b9, b10, b11, b12, b3, b1, b2, b6, b5, b14)) = some (r1, r2, r3, r4, r5, r6, r7, r8, r9, r10, r11, r12) := h
 clear h
 simp only [Option.some.injEq, Prod.mk.injEq] at H
 obtain ⟨rfl, rfl, rfl, rfl, rfl, rfl, rfl, rfl, rfl, rfl, rfl, rfl⟩ := H
 go_enter Try.func17, Try.ntmps17
 go_wp2_with (first | ((with_reducible refine gate_dst (N := 1) rfl ?_); refine box_event rfl (N := 1) rfl (cs := #[.int .i64 b0, .int .i64 b1, .int .i64 b2, .int .i64 b3, .bool b4, .bool b5, .int .i64 b6, .bool b7, .int .u64 b8, .int .u64 b9, .bool b10, .int .u64 b11, .int .u64 b12, .slice A0_13 l0_13.length c0_13, .string b14]) (t := 28) kG ?_; intro gb238 hg w2 hbox hb; have BK238 := As (hbox); have GW238 := As (gS hg (below_size (kB HB.out))); have GE238 := As (gS hg (below_size (kB HB.out))); replace HB := As (below_step (kB HB.out) hb); clear hb hbox hg) | ((with_reducible refine gate_dst (N := 2) rfl ?_); refine box_event rfl (N := 2) rfl (cs := #[.bool false, .int .u64 0, .int .u64 0, .bool false, .int .u64 0, .int .u64 0, .int .i64 0, .int .i64 0, .int .i64 0, .int .i64 0, .bool false, .string (⟨#[]⟩ : ByteArray)]) (t := 38) kG ?_; intro gb239 hg w3 hbox hb; have BK239 := As (hbox); have GW239 := As (gS hg (below_size (kB1 HB.out GE238.out))); have GE239 := As (gS hg (below_size (kB1 HB.out GE238.out))); replace HB := As (below_step (kB1 HB.out GE238.out) hb); have NB238_239 := As (gN hg (blk_lt (kb BK238.out))); have NB239_238 := As (gM hg (blk_lt (kb BK238.out))); replace BK238 := As (blk_below (kb BK238.out) hb); clear hb hbox hg; have hnb4 := NB238_239.out; have hnc4 := NB239_238.out; have hcz5_0 := cells_15 BK238.out; have hfz5_0 := fun j_ => blk_frozen BK238.out j_) | ((with_reducible refine gate_store (t := 38) (p := 2) rfl ?_); refine store_rowev_12 gb239 (.bool b7) (.int .u64 b8) (.int .u64 b9) (.bool b10) (.int .u64 b11) (.int .u64 b12) (.int .i64 b3) (.int .i64 b1) (.int .i64 b2) (.int .i64 b6) (.bool b5) (.string b14) rfl (t := 38) (p := 2) (v := _) rfl rfl rfl rfl (t' := 38) (kb BK239.out) (by rfl) (by kernel_rfl) (by rfl) ?_))
 refine bodyPost_ret (results_cell_row rfl _ _ gb239 38 #[.bool b7, .int .u64 b8, .int .u64 b9, .bool b10, .int .u64 b11, .int .u64 b12, .int .i64 b3, .int .i64 b1, .int .i64 b2, .int .i64 b6, .bool b5, .string b14] (0, 0) _ rfl (by refine kb ?_; exact blk_all_12 (kb BK239.out) (by rfl)) Try.underlying38 rfl (by kernel_rfl)) rfl ?_
 exact ⟨kE, by exact kB2 HB.out GE238.out GE239.out⟩

/-! ### ipv4_Routed: function 19 -/
def ipv4_Routed.f (k : Nat) (b0 : Int) (b1 : Int) (b2 : Int) (b3 : Int) (b4 : Bool) (b5 : Bool) (b6 : Int) (b7 : Bool) (b8 : Int) (b9 : Int) (b10 : Bool) (b11 : Int) (b12 : Int) (l0_13 : List (S50)) (b14 : ByteArray) : Option (Bool) := (api_Option_R.f k l0_13).bind fun t241 => (some t241)
theorem ipv4_Routed.mono : ∀ a0 a1 a2 a3 a4 a5 a6 a7 a8 a9 a10 a11 a12 a13 a14 k, LeO (ipv4_Routed.f k a0 a1 a2 a3 a4 a5 a6 a7 a8 a9 a10 a11 a12 a13 a14) (ipv4_Routed.f (k + 1) a0 a1 a2 a3 a4 a5 a6 a7 a8 a9 a10 a11 a12 a13 a14) := by
 intro a0 a1 a2 a3 a4 a5 a6 a7 a8 a9 a10 a11 a12 a13 a14 k
 unfold ipv4_Routed.f
 repeat' first | with_reducible first | apply api_Option_R.mono | apply LeO.refl | apply LeO.none | refine LeO.ite ?_ ?_ | refine LeO.bind ?_ (fun _ => ?_)
set_option maxHeartbeats 8000000 in
set_option maxRecDepth 100000 in
theorem ipv4_Routed.calls (k : Nat) (b0 : Int) (b1 : Int) (b2 : Int) (b3 : Int) (b4 : Bool) (b5 : Bool) (b6 : Int) (b7 : Bool) (b8 : Int) (b9 : Int) (b10 : Bool) (b11 : Int) (b12 : Int) (A0_13 : Option Addr) (c0_13 : Nat) (l0_13 : List (S50)) (b14 : ByteArray) (r : Bool) (w : World) (hr0_13 : Kd.C k50 w A0_13 l0_13.length l0_13) (hc0_13 : l0_13.length ≤ c0_13) (h : ipv4_Routed.f k b0 b1 b2 b3 b4 b5 b6 b7 b8 b9 b10 b11 b12 l0_13 b14 = some r) :
  Calls Try.prog 19 #[.agg #[.int .i64 b0, .int .i64 b1, .int .i64 b2, .int .i64 b3, .bool b4, .bool b5, .int .i64 b6, .bool b7, .int .u64 b8, .int .u64 b9, .bool b10, .int .u64 b11, .int .u64 b12, .slice A0_13 l0_13.length c0_13, .string b14]] w fun e w' => e = .returned (.bool r) ∧ Below w.heap.size w w' := by
 have hu28 := Try.underlying28
 have HR0_13 := As hr0_13
 have HC0_13 := As hc0_13
 clear hr0_13 hc0_13
 have HB := As (Below.refl w.heap.size w)
 have H : ((api_Option_R.f k l0_13).bind fun t241 => (some t241)) = some r := h
 clear h
 replace H := bS H
 obtain ⟨t241, A2, H⟩ := H
 obtain rfl := Option.some.inj H
 go_enter Try.func19, Try.ntmps19
 go_wp2_with (first | ((with_reducible refine gate_dst (N := 1) rfl ?_); refine box_event rfl (N := 1) rfl (cs := #[.int .i64 b0, .int .i64 b1, .int .i64 b2, .int .i64 b3, .bool b4, .bool b5, .int .i64 b6, .bool b7, .int .u64 b8, .int .u64 b9, .bool b10, .int .u64 b11, .int .u64 b12, .slice A0_13 l0_13.length c0_13, .string b14]) (t := 28) kG ?_; intro gb240 hg w3 hbox hb; have BK240 := As (hbox); have GW240 := As (gS hg (below_size (kB HB.out))); have GE240 := As (gS hg (below_size (kB HB.out))); replace HB := As (below_step (kB HB.out) hb); clear hb hbox hg; have hcz4_0 := cells_15 BK240.out; have hfz4_0 := fun j_ => blk_frozen BK240.out j_) | (go_at_call 46; (with_reducible refine (api_Option_R.calls k _ _ l0_13 t241 _ ?side1 ?side2 A2.out).mono ?_); (case side1 => repeat (first | exact (Kd.C_below HR0_13.out HB.out) | (with_reducible refine Kd.C_alloc ?_ _) | (with_reducible refine Kd.C_drewN ?_ _) | (with_reducible refine Kd.C_drew ?_))); (case side2 => exact HC0_13.out); rintro e w5 ⟨rfl, hb⟩; replace BK240 := As (blk_below (kb BK240.out) hb); replace HB := As (below_step (kB1 HB.out GE240.out) hb); (try clear hb)))
 go_ret
 exact ⟨kE, by exact kB1 HB.out GE240.out⟩

/-! ### api_Option_48: function 48, and function 69, for the predicate 50: a Kind below 128 goes; the row is one's own -/
def enc_api_Option_48 : List S50 → List Value
  | [] => []
  | x :: l => .int .i64 x.f0 :: .string x.f1 :: enc_api_Option_48 l
theorem enc_len_api_Option_48 : ∀ l : List S50, (enc_api_Option_48 l).length = l.length * 2
  | [] => rfl
  | x :: l => by simp only [enc_api_Option_48, List.length_cons, enc_len_api_Option_48 l]; omega
theorem enc_take_api_Option_48 : ∀ (l : List S50) (m : Nat), enc_api_Option_48 (l.take m) = (enc_api_Option_48 l).take (m * 2)
  | [], m => by simp [enc_api_Option_48]
  | x :: l, 0 => by simp [enc_api_Option_48]
  | x :: l, m + 1 => by
    rw [show (m + 1) * 2 = m * 2 + 1 + 1 by omega]
    simp only [List.take_succ_cons, enc_api_Option_48, enc_take_api_Option_48 l m]
theorem enc_get_api_Option_48 : ∀ (l : List S50) (i : Nat), i < l.length → (enc_api_Option_48 l)[i * 2]? = some (.int .i64 (l.getD i z50).f0) ∧ (enc_api_Option_48 l)[i * 2 + 1]? = some (.string (l.getD i z50).f1)
  | [], i, h => absurd h (Nat.not_lt_zero _)
  | x :: l, 0, _ => by simp [enc_api_Option_48]
  | x :: l, i + 1, h => by
    have ih := enc_get_api_Option_48 l i (by simpa using h)
    rw [show (i + 1) * 2 = i * 2 + 1 + 1 by omega]
    simpa [enc_api_Option_48] using ih
theorem enc_set_api_Option_48 : ∀ (l : List S50) (i : Nat) (x : S50), i < l.length → (enc_api_Option_48 l).take (i * 2) ++ [.int .i64 x.f0, .string x.f1] ++ (enc_api_Option_48 l).drop (i * 2 + 2) = enc_api_Option_48 (l.set i x)
  | [], i, x, h => absurd h (Nat.not_lt_zero _)
  | y :: l, 0, x, _ => by simp [enc_api_Option_48]
  | y :: l, i + 1, x, h => by
    have ih := enc_set_api_Option_48 l i x (by simpa using h)
    rw [show (i + 1) * 2 = i * 2 + 1 + 1 by omega, show i * 2 + 1 + 1 + 2 = i * 2 + 2 + 1 + 1 by omega]
    simpa [enc_api_Option_48] using ih
theorem enc_reps_api_Option_48 (w : World) (base : Nat) (ok : Nat → Prop) : ∀ l : List S50, Reps (k50.M w base ok) 2 l (enc_api_Option_48 l)
  | [] => Reps.none _ _
  | x :: l => Reps.c2 (k50_mkM w base ok x) (enc_reps_api_Option_48 w base ok l)
theorem reps_enc_api_Option_48 {w : World} {base : Nat} {ok : Nat → Prop} : ∀ (l : List S50) (cs : List Value), Reps (k50.M w base ok) 2 l cs → cs = enc_api_Option_48 l
  | [], cs, h => List.eq_nil_of_length_eq_zero (by have := h.1; simpa using this)
  | x :: l, cs, h => by
    have hl := h.1
    have h0 := k50_openM (h.2 0 x rfl)
    simp only [Nat.zero_mul, List.drop_zero] at h0
    have ih := reps_enc_api_Option_48 (w := w) (base := base) (ok := ok) l (cs.drop 2) ⟨by rw [List.length_drop, hl, List.length_cons]; omega, fun j p hj => by
      have := h.2 (j + 1) p (by simpa using hj)
      rw [List.drop_drop]
      rwa [show (j + 1) * 2 = 2 + j * 2 by omega] at this⟩
    rw [← List.take_append_drop 2 cs, h0, ih]
    rfl
def Row_api_Option_48 (w : World) (base g n c : Nat) (dk : List S50) : Prop := dk.length = n ∧ n ≤ c ∧ c ≤ maxLen ∧ base ≤ g ∧ ∃ cur, w.heap[g]? = some (.cells cur 50 (0, 0)) ∧ cur.size = c * 2 ∧ cur.toList.take (n * 2) = enc_api_Option_48 dk
theorem row_of_api_Option_48 {w : World} {base g n c : Nat} {ok : Nat → Prop} {dk : List S50} (h : Kd.R k50 50 w base ok (.slice (some ⟨g, 0, none⟩) n c) dk) : ok g ∧ Row_api_Option_48 w base g n c dk := by
  obtain ⟨hn, hnc, _⟩ := Kd.R_reads' h
  obtain ⟨h0, inner, ho, hr⟩ := h
  refine ⟨h0 g (by simp [Value.ownBlock]), hn.symm, hnc, ?_⟩
  obtain rfl := reps_enc_api_Option_48 _ _ hr
  rcases ho.2 with ⟨hz, _⟩ | ⟨g', cap, cur, hv, hb, hh, _, hm, hs, ht⟩
  · cases hz
  injection hv with ha _ hc
  injection ha with ha
  injection ha with hg _
  subst hg; subst hc
  exact ⟨hm, hb, cur, hh, hs, by rw [hn]; exact ht⟩
theorem of_row_api_Option_48 {w : World} {base g n c : Nat} {ok : Nat → Prop} {dk : List S50} (h : Row_api_Option_48 w base g n c dk) (ho : ok g) : Kd.R k50 50 w base ok (.slice (some ⟨g, 0, none⟩) n c) dk := by
  obtain ⟨rfl, h2, h3, h4, cur, h5, h6, h7⟩ := h
  refine ⟨fun k hk => ?_, enc_api_Option_48 dk, ⟨enc_len_api_Option_48 dk, .inr ⟨g, c, cur, rfl, h4, h5, h2, h3, h6, h7⟩⟩, enc_reps_api_Option_48 _ _ _ dk⟩
  have : g = k := by simpa [Value.ownBlock] using hk
  exact this ▸ ho
theorem row_below_api_Option_48 {w w1 : World} {base g n c : Nat} {dk : List S50} (h : Row_api_Option_48 w base g n c dk) (hb : Below w.heap.size w w1) : Row_api_Option_48 w1 base g n c dk := by
  obtain ⟨h1, h2, h3, h4, cur, h5, h6⟩ := h
  exact ⟨h1, h2, h3, h4, cur, by rw [hb.block g (blk_lt h5)]; exact h5, h6⟩
theorem row_cells_api_Option_48 {w : World} {base g n c : Nat} {dk : List S50} (h : Row_api_Option_48 w base g n c dk) (i : Nat) (hi : i < n) : w.cell? ⟨g, i * 2, none⟩ = some (.int .i64 (dk.getD i z50).f0) ∧ w.cell? ⟨g, i * 2 + 1, none⟩ = some (.string (dk.getD i z50).f1) := by
  obtain ⟨rfl, h2, h3, h4, cur, h5, h6, h7⟩ := h
  obtain ⟨e1, e2⟩ := enc_get_api_Option_48 dk i hi
  rw [← h7, List.getElem?_take, if_pos (by omega), Array.getElem?_toList] at e1 e2
  exact ⟨by rw [cell_of_row w g _ cur _ (0, 0) h5]; exact e1, by rw [cell_of_row w g _ cur _ (0, 0) h5]; exact e2⟩
theorem row_set_api_Option_48 {w : World} {base g n c : Nat} {dk : List S50} (h : Row_api_Option_48 w base g n c dk) (i : Nat) (hi : i < n) (x : S50) : Row_api_Option_48 (w.setCells g (i * 2) [.int .i64 x.f0, .string x.f1]) base g n c (dk.set i x) := by
  obtain ⟨rfl, h2, h3, h4, cur, h5, h6, h7⟩ := h
  obtain ⟨cur', e1, e2, e3⟩ := setCells_row [.int .i64 x.f0, .string x.f1] (i * 2) w cur h5 (by simp; omega)
  refine ⟨by simp, h2, h3, h4, cur', e1, by rw [e2, h6], ?_⟩
  rw [← enc_set_api_Option_48 dk i x hi, ← h7, e3]
  have hl : cur.toList.length = c * 2 := by rw [Array.length_toList, h6]
  apply List.ext_getElem?
  intro j
  have m1 : min (i * 2) (c * 2) = i * 2 := Nat.min_eq_left (by omega)
  have m2 : min (i * 2) (min (dk.length * 2) (c * 2)) = i * 2 := Nat.min_eq_left (by omega)
  simp only [List.getElem?_take, List.getElem?_append, List.getElem?_drop, List.length_take, List.length_append, List.length_cons, List.length_nil, hl, m1, m2]
  repeat' split
  all_goals first | rfl | omega | skip
theorem row_clear_api_Option_48 {w : World} {base g n c : Nat} {dk : List S50} (h : Row_api_Option_48 w base g n c dk) (i : Nat) (hi : i ≤ n) (zs : List Value) (hz : zs.length = (n - i) * 2) : Row_api_Option_48 (w.setCells g (i * 2) zs) base g i c (dk.take i) := by
  obtain ⟨rfl, h2, h3, h4, cur, h5, h6, h7⟩ := h
  obtain ⟨cur', e1, e2, e3⟩ := setCells_row zs (i * 2) w cur h5 (by rw [hz, h6]; omega)
  refine ⟨by rw [List.length_take]; omega, by omega, h3, h4, cur', e1, by rw [e2, h6], ?_⟩
  rw [enc_take_api_Option_48, ← h7, e3]
  have hl : cur.toList.length = c * 2 := by rw [Array.length_toList, h6]
  rw [List.take_take, Nat.min_eq_left (by omega), List.append_assoc, List.take_append_of_le_length (by rw [List.length_take, hl]; omega), List.take_take, Nat.min_self]
theorem row_grown_api_Option_48 {w a : World} {base g : Nat} {vs : List Value} {o : Nat} (h : Below base a w) (hb : base ≤ w.heap.size) (hg : base ≤ g) : Below base a (w.setCells g o vs) := by
  obtain ⟨s1, s2, s3, s4⟩ := setCells_same g vs o w
  exact h.grown (row := some g) ⟨s1, s2, s3, by rw [s4]; exact Nat.le_refl _, fun k _ hk => setCells_far vs o k (fun he => hk (by rw [he]))⟩ hb (fun k hk => by cases hk; exact hg)
theorem row_store_api_Option_48 {o : Oper} {a : Act} {t : TypeId} {p : Tmp} {v : Operand} {w : World} {base g n c : Nat} {dk : List S50} (h : Row_api_Option_48 w base g n c dk) (i : Nat) (hi : i < n) (x : S50) (ho : o.op = .store t (.tmp p) v) (hx : a.eval (.tmp p) = .pointer (some ⟨g, i * 2, none⟩)) (hy : a.eval v = .agg #[.int .i64 x.f0, .string x.f1]) (ht : (Try.prog.info? t).map (·.size) = some 2) :
    (execOp a.eval o).run Try.prog w = .ok .skip (w.setCells g (i * 2) [.int .i64 x.f0, .string x.f1]) := by
  obtain ⟨h1, h2, h3, h4, cur, h5, h6, h7⟩ := h
  have hs := run_store_run (P := Try.prog) (w := w) (g := g) (o := i * 2) (e := 50) (cur := cur) t (.agg #[.int .i64 x.f0, .string x.f1]) [.int .i64 x.f0, .string x.f1] h5 rfl ht (by simp; omega) (by intro q hq; simp at hq; rcases hq with rfl | rfl <;> rfl)
  unfold execOp
  simp only [ho, hx, hy, Sem.run_bind, Sem.run_pure, hs, Result.andThen_ok]
theorem row_clr_api_Option_48 {w : World} {base g n c : Nat} {dk : List S50} (h : Row_api_Option_48 w base g n c dk) (i : Nat) (hi : i < n) : ∃ zs : List Value, zs.length = (n - i) * 2 ∧ ∀ (ty : TypeId) (c' : Nat), (Builtin.clear_ #[26] ty #[.slice (some ⟨g, i * 2, none⟩) (n - i) c']).run Try.prog w = .ok (.tuple #[]) (w.setCells g (i * 2) zs) := by
  obtain ⟨h1, h2, h3, h4, cur, h5, h6, h7⟩ := h
  obtain ⟨m, hm⟩ : ∃ m, n - i = m + 1 := ⟨n - i - 1, by omega⟩
  have hv : ∀ w, (zeroValue 50).run Try.prog w = .ok (.agg #[.int .i64 0, .string ⟨#[]⟩]) w := Try.zeroValue50
  refine ⟨(Builtin.zeroCells #[.int .i64 0, .string ⟨#[]⟩] (n - i)).toList, by simp [Builtin.zeroCells], fun ty c' => ?_⟩
  have hst := run_storeCells_cells (P := Try.prog) g (i * 2) (Builtin.zeroCells #[.int .i64 0, .string ⟨#[]⟩] (n - i)).toList 0 w (fun j hj => by
      have hj' : j < (n - i) * 2 := by simpa [Builtin.zeroCells] using hj
      rw [cell_of_row w g _ cur _ (0, 0) h5, Array.getElem?_eq_getElem (by omega)]; rfl) (fun j _ => blk_frozen h5 _) (fun q hq => by
      simp only [Builtin.zeroCells, Array.toList_map, List.mem_map] at hq
      obtain ⟨b, -, rfl⟩ := hq
      have : b % 2 < 2 := Nat.mod_lt _ (by decide)
      rcases (show b % 2 = 0 ∨ b % 2 = 1 by omega) with e | e <;> simp [e] <;> rfl)
  simp only [Nat.add_zero] at hst
  have hz : (Value.agg #[.int .i64 0, .string ⟨#[]⟩]).cells = #[.int .i64 0, .string ⟨#[]⟩] := rfl
  rw [hm] at hst ⊢
  simp [Builtin.clear_, run_underlying Try.underlying26, hv, hz, hst]
/-- What stays. -/
def api_Option_48.keep (x : S50) : Bool := !decide (x.f0 < 128)
def api_Option_48.f (l : List S50) : Option (List S50) := some (l.filter api_Option_48.keep)
set_option maxHeartbeats 4000000 in
set_option maxRecDepth 100000 in
theorem api_Option_48.pred (a : Int) (s : ByteArray) (w : World) : Calls Try.prog 50 #[.agg #[.int .i64 a, .string s]] w fun e w' => e = .returned (.bool (decide (a < 128))) ∧ Below w.heap.size w w' := by
  have hu := Try.underlying50
  go_enter Try.func50, Try.ntmps50
  go_wp2
  go_ret
  exact ⟨rfl, below_alloc (Below.refl _ _) _⟩
/-- What the search gives: no element goes, or the first that does. -/
def api_Option_48.At (l : List S50) (r : Int) : Prop := (r = -1 ∧ ∀ j : Nat, j < l.length → api_Option_48.keep (l.getD j z50) = true) ∨ ∃ m : Nat, m < l.length ∧ r = (m : Int) ∧ api_Option_48.keep (l.getD m z50) = false ∧ ∀ j : Nat, j < m → api_Option_48.keep (l.getD j z50) = true
set_option maxHeartbeats 8000000 in
set_option maxRecDepth 100000 in
theorem api_Option_48.index (A0 : Option Addr) (c0 : Nat) (l0 : List S50) (w : World) (hr0 : Kd.C k50 w A0 l0.length l0) (hc0 : l0.length ≤ c0) (hsz : (l0.length : Int) ≤ 9223372036854775807) :
    Calls Try.prog 69 #[.slice A0 l0.length c0, .func (.func 50) #[] #[]] w fun e w' => (∃ r : Int, e = .returned (.int .i64 r) ∧ api_Option_48.At l0 r) ∧ Below w.heap.size w w' := by
  have HR0 := As hr0
  have HC0 := As hc0
  have HZ := As hsz
  clear hr0 hc0 hsz
  have HB0 := As (Below.refl w.heap.size w)
  go_enter Try.func69, Try.ntmps69
  go_wp2
  go_loopg [8] l0.length (fun kq v8 w' => ∃ (x : Nat), v8 = .int .i64 (x : Int) ∧ Aside0 (x ≤ l0.length ∧ l0.length - x ≤ kq ∧ ∀ j : Nat, j < x → api_Option_48.keep (l0.getD j z50) = true) ∧ Aside0 (Below w.heap.size w w'))
  case atStart => exact ⟨0, rfl, ⟨Nat.zero_le _, by omega, fun j hj => absurd hj (Nat.not_lt_zero _)⟩, ⟨by repeat (first | exact HB0.out | apply below_drew1 | apply below_alloc | apply pw_below_drewN)⟩⟩
  clear HB0
  obtain ⟨x, rfl, HI, HB⟩ := hrel
  by_cases c2 : (x : Int) < (l0.length : Int)
  · have c2b0 : decide ((x : Int) < (l0.length : Int)) = true := decide_eq_true c2
    have q1 := eq_true c2
    have q2 := eq_true (show (0 : Int) ≤ (x : Int) by omega)
    obtain ⟨ad, e_, hx0, hx1⟩ := at_T50 (Kd.C_below HR0.out HB.out) (x : Int) (by omega) c2
    have hrd : rd_T50 l0 (x : Int) = l0.getD x z50 := rfl
    rw [hrd] at hx0 hx1
    simp only [Int.toNat_natCast] at hx0 hx1
    clear hrd
    obtain ⟨E, hE⟩ : ∃ E, l0.getD x z50 = E := ⟨_, rfl⟩
    rw [hE] at hx0 hx1
    have EE := As hE
    clear hE
    cases e_
    by_cases c4 : E.f0 < 128
    · have c4b : decide (E.f0 < 128) = true := decide_eq_true c4
      have C2 := As c2
      have C4 := As c4
      clear c2 c4
      go_wp2_with (first | (go_at_call 50; refine (api_Option_48.pred _ _ _).mono ?_; rintro e w2 ⟨rfl, hb⟩; rw [c4b]))
      all_goals go_ret
      all_goals exact ⟨⟨_, rfl, .inr ⟨x, by have := C2.out; omega, rfl, by rw [EE.out]; unfold api_Option_48.keep; rw [c4b]; rfl, HI.out.2.2⟩⟩, by repeat (first | exact below_step HB.out hb | apply below_drew1)⟩
    have c4b : decide (E.f0 < 128) = false := decide_eq_false c4
    have hw : wrap64 ((x : Int) + 1) = ((x + 1 : Nat) : Int) := by have := HZ.out; unfold wrap64; omega
    have HW := As hw
    have C2 := As c2
    clear c2 c4 hw
    go_wp2_with (first | (go_at_call 50; refine (api_Option_48.pred _ _ _).mono ?_; rintro e w2 ⟨rfl, hb⟩; rw [c4b]))
    go_roundg (l0.length - (x + 1))
    case measure => have := C2.out; have := HI.out.2.1; omega
    case rel => exact ⟨x + 1, by rw [← HW.out], ⟨by have := C2.out; omega, Nat.le_refl _, fun j hj => by
      rcases Nat.lt_succ_iff_lt_or_eq.1 hj with hj | rfl
      · exact HI.out.2.2 j hj
      rw [EE.out]; unfold api_Option_48.keep; rw [c4b]; rfl⟩, ⟨by repeat (first | exact below_step HB.out hb | apply below_drew1)⟩⟩
  have c2b0 : decide ((x : Int) < (l0.length : Int)) = false := decide_eq_false c2
  have C2 := As c2
  go_wp2
  go_ret
  exact ⟨⟨_, rfl, .inl ⟨rfl, fun j hj => HI.out.2.2 j (by have := C2.out; omega)⟩⟩, by repeat (first | exact HB.out | apply below_drew1)⟩
theorem then_api_Option_48 {B : Nat} {w w1 w2 : World} (hB : B ≤ w.heap.size) (h : Below B w w1) (k : Below w1.heap.size w1 w2) : Below B w w2 := below_then h (Nat.le_trans hB h.size) k
theorem keep_all_api_Option_48 (l : List S50) (h : ∀ j : Nat, j < l.length → api_Option_48.keep (l.getD j z50) = true) : l.filter api_Option_48.keep = l := by
  refine List.filter_eq_self.2 fun x hx => ?_
  obtain ⟨j, hj, rfl⟩ := List.getElem_of_mem hx
  have := h j hj
  rwa [List.getD_eq_getElem?_getD, List.getElem?_eq_getElem hj] at this
/-- The row while it goes: what stays of the first j, and then what stood there. -/
def mid_api_Option_48 (l : List S50) (j : Nat) : List S50 := (l.take j).filter api_Option_48.keep ++ l.drop ((l.take j).filter api_Option_48.keep).length
theorem mid_get_api_Option_48 (l : List S50) (j : Nat) : (mid_api_Option_48 l j).getD j z50 = l.getD j z50 := by
  have h1 : ((l.take j).filter api_Option_48.keep).length ≤ j := Nat.le_trans (List.length_filter_le _ _) (by rw [List.length_take]; omega)
  unfold mid_api_Option_48
  rw [List.getD_eq_getElem?_getD, List.getD_eq_getElem?_getD, List.getElem?_append_right h1, List.getElem?_drop, Nat.add_sub_of_le h1]
theorem mid_keep_api_Option_48 (l : List S50) (j : Nat) (hj : j < l.length) (hk : api_Option_48.keep (l.getD j z50) = true) :
    ((l.take (j + 1)).filter api_Option_48.keep).length = ((l.take j).filter api_Option_48.keep).length + 1 ∧ (mid_api_Option_48 l j).set ((l.take j).filter api_Option_48.keep).length (l.getD j z50) = mid_api_Option_48 l (j + 1) := by
  have h1 : ((l.take j).filter api_Option_48.keep).length ≤ j := Nat.le_trans (List.length_filter_le _ _) (by rw [List.length_take]; omega)
  have hg : l.getD j z50 = l[j] := by rw [List.getD_eq_getElem?_getD, List.getElem?_eq_getElem hj]; rfl
  have ht : (l.take (j + 1)).filter api_Option_48.keep = (l.take j).filter api_Option_48.keep ++ [l.getD j z50] := by
    rw [List.take_succ_eq_append_getElem hj, List.filter_append, ← hg, List.filter_cons_of_pos hk, List.filter_nil]
  refine ⟨by rw [ht]; simp, ?_⟩
  unfold mid_api_Option_48
  rw [ht, List.set_append_right _ _ (Nat.le_refl _), Nat.sub_self, List.append_assoc]
  congr 1
  rw [List.drop_eq_getElem_cons (i := ((l.take j).filter api_Option_48.keep).length) (by omega)]
  simp only [List.set_cons_zero, List.length_append, List.length_cons, List.length_nil, List.singleton_append]
theorem mid_skip_api_Option_48 (l : List S50) (j : Nat) (hj : j < l.length) (hk : api_Option_48.keep (l.getD j z50) = false) :
    (l.take (j + 1)).filter api_Option_48.keep = (l.take j).filter api_Option_48.keep ∧ mid_api_Option_48 l (j + 1) = mid_api_Option_48 l j := by
  have hg : l.getD j z50 = l[j] := by rw [List.getD_eq_getElem?_getD, List.getElem?_eq_getElem hj]; rfl
  have ht : (l.take (j + 1)).filter api_Option_48.keep = (l.take j).filter api_Option_48.keep := by
    rw [List.take_succ_eq_append_getElem hj, List.filter_append, ← hg, List.filter_cons_of_neg (by rw [hk]; simp), List.filter_nil, List.append_nil]
  refine ⟨ht, ?_⟩
  unfold mid_api_Option_48
  rw [ht]
theorem mid_start_api_Option_48 (l : List S50) (m : Nat) (hm : m < l.length) (h0 : api_Option_48.keep (l.getD m z50) = false) (h : ∀ j : Nat, j < m → api_Option_48.keep (l.getD j z50) = true) :
    ((l.take (m + 1)).filter api_Option_48.keep).length = m ∧ mid_api_Option_48 l (m + 1) = l := by
  have e1 : (l.take m).filter api_Option_48.keep = l.take m := keep_all_api_Option_48 _ fun j hj => by
    rw [List.length_take] at hj
    have := h j (by omega)
    rw [List.getD_eq_getElem?_getD] at this ⊢
    rwa [List.getElem?_take, if_pos (by omega)]
  have e2 : ((l.take (m + 1)).filter api_Option_48.keep).length = m := by rw [(mid_skip_api_Option_48 l m hm h0).1, e1, List.length_take]; omega
  refine ⟨e2, ?_⟩
  rw [(mid_skip_api_Option_48 l m hm h0).2]
  unfold mid_api_Option_48
  rw [e1, List.length_take, Nat.min_eq_left (by omega), List.take_append_drop]
theorem mid_end_api_Option_48 (l : List S50) : (mid_api_Option_48 l l.length).take (l.filter api_Option_48.keep).length = l.filter api_Option_48.keep := by
  unfold mid_api_Option_48
  rw [List.take_length, List.take_append_of_le_length (Nat.le_refl _), List.take_length]
set_option maxHeartbeats 8000000 in
set_option maxRecDepth 100000 in
theorem api_Option_48.calls (A0 : Option Addr) (c0 : Nat) (l0 : List S50) (r : List S50) (base : Nat) (ok : Nat → Prop) (w : World) (hb0 : base ≤ w.heap.size) (hr0 : Kd.R k50 50 w base ok (.slice A0 l0.length c0) l0) (h : api_Option_48.f l0 = some r) :
    Calls Try.prog 48 #[.slice A0 l0.length c0, .func (.func 50) #[] #[]] w fun e w' => ∃ v0_ : Value, e = .returned v0_ ∧ Kd.R k50 50 w' base ok v0_ r ∧ Below base w w' := by
  obtain rfl := Option.some.inj h
  clear h
  have HI := As (Kd.R_reads' hr0).2
  have HZ : Aside0 ((l0.length : Int) ≤ 9223372036854775807) := ⟨by have := HI.out.2.2.1; omega⟩
  have HR := As hr0
  have HL := As hb0
  have HB0 := As (Below.refl base w)
  have GO : ∀ (W : World), Below w.heap.size w W → Calls Try.prog 69 #[.slice A0 l0.length c0, .func (.func 50) #[] #[]] W fun e w' => (∃ r : Int, e = .returned (.int .i64 r) ∧ api_Option_48.At l0 r) ∧ Below W.heap.size W w' := fun W hW => api_Option_48.index A0 c0 l0 W (Kd.C_below HI.out.2 hW) HI.out.1 HZ.out
  have GG := As GO
  clear GO hr0 hb0
  have hu := Try.underlying50
  go_enter Try.func48, Try.ntmps48
  go_upto_region 2 with (first | (go_at_call 69; refine (GG.out _ (by repeat (first | exact Below.refl _ _ | apply below_drew1 | apply pw_below_drewN))).mono ?_; rintro e w2 ⟨⟨r1, rfl, HA⟩, hb⟩))
  rcases HA with ⟨rfl, hall⟩ | ⟨m, hm, rfl, hk, hall⟩
  · have HF := As (keep_all_api_Option_48 l0 hall)
    clear hall
    go_wp2
    go_ret
    exact ⟨_, rfl, by rw [HF.out]; exact Kd.R_below HR.out (by repeat (first | exact hb | apply below_drew1)), then_api_Option_48 HL.out HB0.out (by repeat (first | exact hb | apply below_drew1))⟩
  obtain ⟨g, cap, e_, hg0, -⟩ := Kd.R_form HR.out (by omega)
  injection e_ with e1 _ e2
  subst e1; subst e2
  have hR2 := row_below_api_Option_48 (row_of_api_Option_48 HR.out).2 hb
  have HOK := As (row_of_api_Option_48 HR.out).1
  obtain ⟨s1, s2⟩ := mid_start_api_Option_48 l0 m hm hk hall
  have HR2 := As hR2
  have HB := As (then_api_Option_48 HL.out HB0.out hb)
  have HG := As hg0
  have HS1 := As s1
  have HS2 := As s2
  have HM := As hm
  have HW0 : Aside0 (wrap64 ((m : Int) + 1) = ((m + 1 : Nat) : Int)) := ⟨by have := HZ.out; unfold wrap64; omega⟩
  have hne : ((m : Int) == -1) = false := beq_eq_false_iff_ne.2 (by omega)
  clear s1 s2 hR2 hm hg0 hk hall hb HB0 GG HR HI
  go_wp2
  go_loopg [5, 6, 7] l0.length (fun kq v5 v6 v7 wr => ∃ (i j : Nat), v5 = .int .i64 (i : Int) ∧ v6 = .int .i64 (j : Int) ∧ Aside0 (i = ((l0.take j).filter api_Option_48.keep).length ∧ i < j ∧ j ≤ l0.length ∧ l0.length - j ≤ kq) ∧ Aside0 (Row_api_Option_48 wr base g l0.length c0 (mid_api_Option_48 l0 j)) ∧ Aside0 (Below base w wr))
  case atStart => exact ⟨m, m + 1, rfl, by rw [← HW0.out], ⟨HS1.out.symm, by omega, by have := HM.out; omega, by omega⟩, ⟨by rw [HS2.out]; exact HR2.out⟩, ⟨by repeat (first | exact HB.out | apply below_drew | apply pw_below_drewN)⟩⟩
  clear HB HR2 HS1 HS2 HM HW0 hne
  obtain ⟨i, j, rfl, rfl, HJ, HR, HB⟩ := hrel
  by_cases c2 : (j : Int) < (l0.length : Int)
  · have c2b0 : decide ((j : Int) < (l0.length : Int)) = true := decide_eq_true c2
    have q1 := eq_true c2
    have q2 := eq_true (show (0 : Int) ≤ (j : Int) by omega)
    obtain ⟨hx0, hx1⟩ := row_cells_api_Option_48 HR.out j (by omega)
    rw [mid_get_api_Option_48] at hx0 hx1
    obtain ⟨E, hE⟩ : ∃ E, l0.getD j z50 = E := ⟨_, rfl⟩
    rw [hE] at hx0 hx1
    have EE := As hE
    clear hE
    have HWJ : Aside0 (wrap64 ((j : Int) + 1) = ((j + 1 : Nat) : Int)) := ⟨by have := HZ.out; unfold wrap64; omega⟩
    have HWI : Aside0 (wrap64 ((i : Int) + 1) = ((i + 1 : Nat) : Int)) := ⟨by have := HZ.out; have := HJ.out.2.1; unfold wrap64; omega⟩
    have C2 := As c2
    clear c2
    go_upto_region 8 with (fail)
    clear hx0 hx1
    have hk0 : (wr.alloc (.cells #[.int .i64 E.f0, .string E.f1] 50)).heap[wr.heap.size]? = some (.cells #[.int .i64 E.f0, .string E.f1] 50 (0, 0)) := blk_new wr _
    have HRA := row_below_api_Option_48 HR.out (below_alloc (Below.refl wr.heap.size wr) (.cells #[.int .i64 E.f0, .string E.f1] 50))
    have HBA := then_api_Option_48 HL.out HB.out (below_alloc (Below.refl wr.heap.size wr) (.cells #[.int .i64 E.f0, .string E.f1] 50))
    generalize (wr.alloc (.cells #[.int .i64 E.f0, .string E.f1] 50)) = W1 at hk0 HRA HBA ⊢
    generalize wr.heap.size = gb at hk0 ⊢
    have HK := As hk0
    replace HR := As HRA
    replace HB := As HBA
    clear hk0 HRA HBA
    have hz0 := blk_cell HK.out 0
    have hz1 := blk_cell HK.out 1
    by_cases c4 : E.f0 < 128
    · have c4b : decide (E.f0 < 128) = true := decide_eq_true c4
      clear c4
      go_wp2_with (first | (go_at_call 50; refine (api_Option_48.pred _ _ _).mono ?_; rintro e w3 ⟨rfl, hb⟩; rw [c4b]))
      go_roundg (l0.length - (j + 1))
      case measure => have := HJ.out; have := C2.out; omega
      have hsk := mid_skip_api_Option_48 l0 j (by have := C2.out; omega) (by rw [EE.out]; unfold api_Option_48.keep; rw [c4b]; rfl)
      exact ⟨i, j + 1, rfl, by rw [← HWJ.out], ⟨by rw [hsk.1]; exact HJ.out.1, by have := HJ.out; omega, by have := C2.out; omega, Nat.le_refl _⟩, ⟨by rw [hsk.2]; exact row_below_api_Option_48 HR.out hb⟩, ⟨then_api_Option_48 HL.out HB.out hb⟩⟩
    have c4b : decide (E.f0 < 128) = false := decide_eq_false c4
    have q3 := eq_true (show (i : Int) < (l0.length : Int) by have := HJ.out; have := C2.out; omega)
    have q4 := eq_true (show (0 : Int) ≤ (i : Int) by omega)
    clear c4
    go_wp2_with (first | (go_at_call 50; refine (api_Option_48.pred _ _ _).mono ?_; rintro e w3 ⟨rfl, hb⟩; rw [c4b]; have hk3 : w3.heap[gb]? = some (.cells #[.int .i64 E.f0, .string E.f1] 50 (0, 0)) := (by rw [hb.block gb (blk_lt HK.out)]; exact HK.out); have hy0 := blk_cell hk3 0; have hy1 := blk_cell hk3 1; clear hk3; replace HR := As (row_below_api_Option_48 HR.out hb); replace HB := As (then_api_Option_48 HL.out HB.out hb); clear hb) | ((with_reducible refine gate_store (t := 50) (p := 33) rfl ?_); refine store_event rfl rfl rfl (row_store_api_Option_48 HR.out i (by have := HJ.out; omega) E rfl rfl rfl (by kernel_rfl)) ?_; intro w5 hw5))
    go_roundg (l0.length - (j + 1))
    case measure => have := HJ.out; have := C2.out; omega
    have hkp := mid_keep_api_Option_48 l0 j (by have := C2.out; omega) (by rw [EE.out]; unfold api_Option_48.keep; rw [c4b]; rfl)
    rw [EE.out, ← HJ.out.1] at hkp
    exact ⟨i + 1, j + 1, by rw [← HWI.out], by rw [← HWJ.out], ⟨hkp.1.symm, by have := HJ.out; omega, by have := C2.out; omega, Nat.le_refl _⟩, ⟨by rw [← hkp.2]; exact row_set_api_Option_48 HR.out i (by have := HJ.out; omega) E⟩, ⟨row_grown_api_Option_48 HB.out (Nat.le_trans HL.out HB.out.size) HG.out⟩⟩
  have c2b0 : decide ((j : Int) < (l0.length : Int)) = false := decide_eq_false c2
  obtain rfl : j = l0.length := by have := HJ.out; omega
  clear c2
  obtain ⟨zs, hz, hcl⟩ := row_clr_api_Option_48 HR.out i HJ.out.2.1
  have q3 := eq_true (show i ≤ l0.length by have := HJ.out; omega)
  have q4 := eq_false (show ¬ c0 = i by have := HJ.out; have := HR.out.2.1; omega)
  have q5 := eq_true (show l0.length ≤ c0 from HR.out.2.1)
  have q6 := eq_true (show i ≤ c0 by have := HJ.out; have := HR.out.2.1; omega)
  have q7 := eq_true (show (0 : Int) ≤ (i : Int) by omega)
  have q8 := eq_true (show (i : Int) ≤ (l0.length : Int) by have := HJ.out; omega)
  have HZS := As hz
  clear hz
  go_wp2
  go_ret
  have hf := mid_end_api_Option_48 l0
  have hi := HJ.out.1
  rw [List.take_length] at hi
  refine ⟨_, rfl, ?_, row_grown_api_Option_48 HB.out (Nat.le_trans HL.out HB.out.size) HG.out⟩
  rw [← hf, ← hi]
  exact of_row_api_Option_48 (row_clear_api_Option_48 HR.out i (by have := HJ.out; omega) zs HZS.out) HOK.out

/-! ### api_Option_49: function 49 -/
def api_Option_49.f (l0 : List (S50)) : Option ((List (S50))) := if l0.length < 5864062014805 then (some l0) else (none)
set_option maxHeartbeats 8000000 in
set_option maxRecDepth 100000 in
theorem api_Option_49.calls (A0 : Option Addr) (c0 : Nat) (l0 : List (S50)) (r : List (S50)) (w : World) (hr0 : Kd.C k50 w A0 l0.length l0) (hc0 : l0.length ≤ c0) (h : api_Option_49.f l0 = some r) :
  Calls Try.prog 49 #[.slice A0 l0.length c0] w fun e w' => ∃ v0_ : Value, e = .returned (v0_) ∧ Kd.R k50 50 w' w.heap.size (fun _ => True) v0_ r ∧ Below w.heap.size w w' := by
 have HR0 := As hr0
 have HC0 := As hc0
 have hz : 0 < l0.length → ∃ ad, A0 = some ad := fun z => by obtain ⟨ad, e_, -⟩ := hr0.2.2 z; exact ⟨ad, e_⟩
 clear hr0 hc0
 have HB := As (Below.refl w.heap.size w)
 unfold api_Option_49.f at h
 by_cases c2 : l0.length < 5864062014805
 · rw [if_pos c2] at h
   obtain rfl := Option.some.inj h
   clear h
   cases A0 with
   | none =>
     have h0 : l0 = [] := by
       rcases Nat.eq_zero_or_pos l0.length with z | z
       · exact List.eq_nil_of_length_eq_zero z
       obtain ⟨ad, e_⟩ := hz z
       cases e_
     subst h0
     clear hz c2 HR0 HC0
     have heq : ∀ (W : World) (n c : Nat), (Go.binOp .eql 26 (.slice none n c) (.slice none 0 0)).run Try.prog W = .ok (.bool true) W := fun W n c => Go.Lib.run_eql_slice_nil W _ _ none n c 0 0 Try.underlying26
     go_enter Try.func49, Try.ntmps49
     go_wp2
     go_ret
     exact ⟨_, rfl, Kd.R_nil _ _ _ _ _, by repeat (first | exact HB.out | apply below_drew1 | apply below_alloc | apply pw_below_drewN)⟩
   | some ad0 =>
     clear hz
     have LMc2 := As c2
     clear c2
     obtain ⟨y242, hy242⟩ : ∃ y_ : List (S50), y_ = (([] : List (S50))) := ⟨_, rfl⟩
     have Ny242 := As hy242
     clear hy242
     have heq : ∀ (W : World) (n c : Nat), (Go.binOp .eql 26 (.slice (some ad0) n c) (.slice none 0 0)).run Try.prog W = .ok (.bool false) W := fun W n c => Go.Lib.run_eql_slice_nil W _ _ (some ad0) n c 0 0 Try.underlying26
     go_enter Try.func49, Try.ntmps49
     go_wp2_with (first | ((with_reducible refine gate_dst (N := 5) rfl ?_); refine Kd.R_lit k50 _ 50 rfl (N := 5) rfl (xs := ([] : List (S50))) (inner := []) (ok := fun _ => True) (okp := fun _ => True) kG ?hp (fun _ hk => hk) trivial (Below.refl _ _) (Nat.le_refl _) (by simp) ?_; (case hp => exact (Reps.none _ _)); intro v243 w3 ho4 hb hg_ hnew_; clear hg_ hnew_; rw [← Ny242.out] at ho4; have HO244 := As (Kd.R_lower ho4 (below_size (kB HB.out))); replace HB := As (below_step (kB HB.out) hb); clear hb ho4) | ((with_reducible refine gate_builtin (b := .append) (xs := #[.tmp 5, .tmp 6]) rfl ?_); at_builtin; refine Kd.R_append_rows k50 (w0 := w) w.heap.size rfl (.tmp 5) (.tmp 6) 26 50 (.agg #[(.int .i64 0), (.string ⟨#[]⟩)]) 24 rfl Try.underlying26 info50 rfl (by decide) (by omega) v243 y242 l0 _ _ _ (fun _ => True) (fun _ => False) rfl rfl ?aO ?aR (fun _ _ h => h) (fun _ h => h.elim) ?aF ?aB ?aS ?aL ?_; (case aR => repeat (first | exact (Kd.C_below HR0.out HB.out) | (with_reducible refine Kd.C_alloc ?_ _) | (with_reducible refine Kd.C_drewN ?_ _) | (with_reducible refine Kd.C_drew ?_))); (case aB => exact (kB HB.out)); (case aF => exact (fun _ _ => trivial)); (case aO => exact (kR HO244.out)); (case aS => exact (below_size (kB HB.out))); (case aL => have h1_ := LMc2.out; have h2_ : y242.length = 0 := (by rw [Ny242.out]; rfl); omega); intro v246 w5 ho hb hg hat; rw [Ny242.out, List.nil_append] at ho; replace HB := As hb; clear HO244; have HO247 := As ho; clear ho hb hg hat))
     go_ret
     exact ⟨_, kE, by (with_reducible repeat (first | apply Kd.R_alloc | apply Kd.R_drewN | apply Kd.R_drew)); exact HO247.out, by exact kB HB.out⟩
 rw [if_neg c2] at h
 cases h

end Go.Proofs.Ytobioaommmgehaa.Z
-- short
-- short2
