/- Functions and their walks, printed by xprint.py. -/
import Derived.Test.YtobioaommmgehaaZ0
import Derived.Test.YtobioaommmgehaaZ7
namespace Go.Proofs.Ytobioaommmgehaa.Z
open Go.RowKit Go.Proofs.YtobioaommmgehaaW.PrintWords Go.Proofs.YtobioaommmgehaaW.PrintLast Go.Proofs.YtobioaommmgehaaW.PrintMore
attribute [local go_sem] max2_int min2_int max_two min_two max_three min_three max_four min_four   -- for this text's walks alone
set_option linter.unusedVariables false
set_option linter.unusedSimpArgs false

/-! ### strings.Builder: what its methods that write do; Len and String stand in the shelf's plain text -/
theorem bld_info : ∃ j, Try.prog.info? 87 = some j ∧ j.size = 2 := by
  obtain ⟨j, hj, hs⟩ := Option.map_eq_some_iff.1 Try.Builder_Extra_169.sizeBuilder
  exact ⟨j, hj, hs⟩
/-- Rows of another type than the builder's two stay. -/
def Keeps (w w' : World) : Prop := ∀ (g : Nat) (cs : Array Value) (T : TypeId), T ≠ 5 → T ≠ 87 → w.heap[g]? = some (.cells cs T (0, 0)) → w'.heap[g]? = some (.cells cs T (0, 0))
theorem Keeps.set {w w' : World} {b : Nat} {cs0 : Array Value} {fr : Nat × Nat} (h : Keeps w w') (hb : w.heap[b]? = some (.cells cs0 87 fr)) (i : Nat) (v : Value) : Keeps w (w'.setCell ⟨b, i, none⟩ v) := by
  intro g cs T h5 h1 hg
  refine blk_far (h g cs T h5 h1 hg) (fun e => ?_) v
  have e : g = b := e
  subst e
  rw [hb] at hg
  injection hg with hg
  injection hg with _ ht _
  exact h1 ht.symm
theorem Keeps.grown {w w1 w2 : World} {base n : Nat} {v : Value} {xs : List Value} (h : Keeps w w1) (hown : w1.ownsRow base 5 1 v n xs) (hg : w1.grownBy w2 v.ownBlock) : Keeps w w2 := by
  intro g cs T h5 h1 hc
  refine blk_grown (h g cs T h5 h1 hc) hg (fun e => ?_)
  obtain ⟨cells, hk⟩ := own_typed hown g e.symm
  rw [h g cs T h5 h1 hc] at hk
  injection hk with hk
  injection hk with _ ht _
  exact h5 ht
set_option maxHeartbeats 4000000 in
set_option maxRecDepth 100000 in
theorem bld_check (B b : Nat) (bs : List Value) (w : World) (h : Lib.IsBuilder 87 5 B b bs w) :
    Calls Try.prog 72 #[.pointer (some ⟨b, 0, none⟩)] w fun e w' => e = .returned (.tuple #[]) ∧ Lib.BuilderAt 87 5 B b (.pointer (some ⟨b, 0, none⟩)) bs w' ∧ Below B w w' ∧ Keeps w w' := by
  obtain ⟨j, hj, hjs⟩ := bld_info
  rcases h with h | h
  · have h0 := h.cell0
    have hsh := h.shape
    have hfz := h.frozen0
    have hu := h.used (.pointer (some ⟨b, 0, none⟩))
    have hB := h.1
    obtain ⟨_, v0, hb0, _, _⟩ := h
    go_enter Try.func72, Try.ntmps72
    go_wp2
    rw [Lib.run_to_unsafe w ⟨b, 0, none⟩ Try.underlying85 Try.underlying98 hj (by rw [hjs]; decide) hsh (Nat.zero_lt_succ 1)]
    simp only [Result.andThen]
    rw [Oper.upon_value]
    go_wp2
    rw [run_callFunc_extern Try.func73 (by kernel_rfl) (by kernel_rfl) (by kernel_rfl) (e := Extern.AbiNoEscape.same) (by kernel_rfl)]
    rw [Lib.run_noEscape]
    simp only [Result.andThen]
    rw [Oper.upon_value]
    go_wp2
    rw [Lib.run_from_unsafe w ⟨b, 0, none⟩ Try.underlying98 Try.underlying85 hj hsh Try.Builder_Extra_169.liesBuilder]
    simp only [Result.andThen]
    rw [Oper.upon_value]
    go_wp2
    go_end0
    exact ⟨rfl, hu, (Below.refl B w).setCell (p := ⟨b, 0, none⟩) hB _, Keeps.set (fun _ _ _ _ _ q => q) hb0 0 _⟩
  have h0 := h.cell0
  go_enter Try.func72, Try.ntmps72
  go_wp2
  rw [Lib.run_neq_ptr_same w _ Try.underlying85 hj]
  go_wp2
  go_end0
  exact ⟨rfl, h, Below.refl B _, fun _ _ _ _ _ q => q⟩
/-- What is left when the buffer has been appended to and stored. -/
theorem bld_old {B b : Nat} {v : Value} {w1 w2 : World} {bs : List Value} (hbk : w1.heap[b]? = some (.cells #[.pointer (some ⟨b, 0, none⟩), v] 87 (0, 0))) (h2 : w2.heap[b]? = w1.heap[b]?) :
    w2.cell? ⟨b, 0, none⟩ = some (.pointer (some ⟨b, 0, none⟩)) ∧ w2.cell? ⟨b, 1, none⟩ = some v ∧ w2.frozen? ⟨b, 1, none⟩ = false := by
  have hb2 := h2.trans hbk
  exact ⟨by rw [Lib.cell_of_heap hb2]; rfl, by rw [Lib.cell_of_heap hb2]; rfl, Lib.frozen_of_heap hb2 1⟩
set_option maxHeartbeats 8000000 in
set_option maxRecDepth 100000 in
theorem bld_string (B b : Nat) (bs : List Value) (s : ByteArray) (w : World) (h : Lib.IsBuilder 87 5 B b bs w) (hlen : bs.length + s.size ≤ 140737488355328) (hBw : B ≤ w.heap.size) :
    Calls Try.prog 63 #[.pointer (some ⟨b, 0, none⟩), .string s] w fun e w' => e = .returned (.tuple #[.int .i64 s.size, .nilIface]) ∧ Lib.BuilderAt 87 5 B b (.pointer (some ⟨b, 0, none⟩)) (bs ++ Lib.strCells s) w' ∧ Below B w w' ∧ Keeps w w' := by
  obtain ⟨i0, hi, hz0, hz1, hz2⟩ := info_parts Try.Builder_Extra_169.infoByte
  go_enter Try.func63, Try.ntmps63
  go_wp2_with (go_at_call 72; refine (bld_check B b bs _ h).mono ?_)
  rintro e w1 ⟨rfl, h1, hb1, hk1⟩
  obtain ⟨hB, v, hbk, hown, hne⟩ := h1
  obtain ⟨c0, c1, -⟩ := bld_old (B := B) (bs := bs) hbk rfl
  go_wp2_with (at_builtin; refine Lib.wpList_append_own_string _ rfl _ _ 46 9 rfl B 5 i0 Try.underlying46 Try.underlying9 hi hz0 hz1 hz2 _ _ _ rfl hown s rfl ?c3 ?c4 ?c5 ?_)
  case c3 => unfold maxLen; omega
  case c4 => omega
  case c5 => have := hb1.size; omega
  intro v' w2 hown' hgrow _
  have hlt : b < w1.heap.size := (Array.getElem?_eq_some_iff.mp hbk).1
  have h2 := hgrow.block b hlt (fun e => hne e.symm)
  obtain ⟨d0, d1, f1⟩ := bld_old (B := B) (bs := bs) hbk h2
  have hb2 := h2.trans hbk
  obtain ⟨ao, n', cap, rfl⟩ : ∃ ao n' cap, v' = .slice ao n' cap := by
    rcases hown'.2 with ⟨hv, _⟩ | ⟨g, cap, cur, hv, _⟩ <;> exact ⟨_, _, _, hv⟩
  go_wp2
  go_ret2
  refine ⟨rfl, Lib.BuilderAt.put (T := 87) (e := 5) hB hb2 (bs' := bs ++ Lib.strCells s) (by simpa [Lib.strCells_length] using hown') (by decide), (hb1.grown hgrow (by have := hb1.size; omega) (fun k hk => (hown.lt k hk).1)).setCell (p := ⟨b, 1, none⟩) hB _, ?_⟩
  intro g cs T h5 h1 hg
  refine blk_far ((hk1.grown hown hgrow) g cs T h5 h1 hg) (fun e => ?_) _
  have e : g = b := e
  subst e
  have hq := hk1 g cs T h5 h1 hg
  rw [hbk] at hq
  injection hq with hq
  injection hq with _ ht _
  exact h1 ht.symm
set_option maxHeartbeats 8000000 in
set_option maxRecDepth 100000 in
theorem bld_byte (B b : Nat) (bs : List Value) (c : Int) (w : World) (h : Lib.IsBuilder 87 5 B b bs w) (hlen : bs.length + 1 ≤ 140737488355328) (hBw : B ≤ w.heap.size) :
    Calls Try.prog 64 #[.pointer (some ⟨b, 0, none⟩), .int .u8 c] w fun e w' => e = .returned .nilIface ∧ Lib.BuilderAt 87 5 B b (.pointer (some ⟨b, 0, none⟩)) (bs ++ [.int .u8 c]) w' ∧ Below B w w' := by
  obtain ⟨i0, hi, hz0, hz1, hz2⟩ := info_parts Try.Builder_Extra_169.infoByte
  go_enter Try.func64, Try.ntmps64
  go_wp2_with (go_at_call 72; refine (bld_check B b bs _ h).mono ?_)
  rintro e w1 ⟨rfl, h1, hb1, hk1⟩
  obtain ⟨hB, v, hbk, hown, hne⟩ := h1
  obtain ⟨c0, c1, -⟩ := bld_old (B := B) (bs := bs) hbk rfl
  go_wp2_with (at_builtin; refine wpList_append_own _ rfl _ _ 46 rfl B 5 i0 (.int .u8 0) 1 1 Try.underlying46 hi hz0 hz1 hz2 rfl (by decide) _ _ _ rfl (hown.alloc _) ⟨w1.heap.size, 0, none⟩ 1 1 [.int .u8 c] rfl rfl ?c1 ?c2 ?c3 ?c4 ?c5 ?_)
  case c1 =>
    intro j u hj
    match j, hj with
    | 0, hj => simp at hj; subst hj; simp [Addr.add]
  case c2 => intro u hu; simp at hu; subst hu; rfl
  case c3 => unfold maxLen; omega
  case c4 => omega
  case c5 => have := hb1.size; simp; omega
  intro v' w2 hown' hgrow _
  have hlt : b < w1.heap.size := (Array.getElem?_eq_some_iff.mp hbk).1
  have h2 := (hgrow.block b (by simp; omega) (fun e => hne e.symm)).trans (Lib.alloc_old w1 _ b hlt)
  obtain ⟨d0, d1, f1⟩ := bld_old (B := B) (bs := bs) hbk h2
  have hb2 := h2.trans hbk
  obtain ⟨g, cap, rfl⟩ : ∃ g cap, v' = .slice (some ⟨g, 0, none⟩) (bs.length + 1) cap := by
    rcases hown'.2 with ⟨_, h0⟩ | ⟨g, cap, cur, hv, _⟩
    · omega
    exact ⟨g, cap, hv⟩
  go_wp2
  go_ret
  exact ⟨rfl, Lib.BuilderAt.put (T := 87) (e := 5) hB hb2 (bs' := bs ++ [.int .u8 c]) (by simpa using hown') (by decide), ((hb1.alloc (by have := hb1.size; omega) _).grown hgrow (by have := hb1.size; simp; omega) (fun k hk => (hown.lt k hk).1)).setCell (p := ⟨b, 1, none⟩) hB _⟩
/-- The builder in block b holds the bytes of acc. -/
def BldIs (b : Nat) (acc : ByteArray) (w : World) : Prop := Lib.IsBuilder 87 5 b b (Lib.strCells acc) w
theorem BldIs.below {b : Nat} {acc : ByteArray} {w w1 : World} (h : BldIs b acc w) (hb : Below w.heap.size w w1) : BldIs b acc w1 := by
  have go : ∀ p, Lib.BuilderAt 87 5 b b p (Lib.strCells acc) w → Lib.BuilderAt 87 5 b b p (Lib.strCells acc) w1 := by
    rintro p ⟨hB, v, hbk, hown, hne⟩
    refine ⟨hB, v, blk_below hbk hb, own_move hown (fun k hk => ?_), hne⟩
    obtain ⟨cells, hc⟩ := own_typed hown k hk
    exact (blk_below hc hb).trans hc.symm
  exact h.elim (fun q => .inl (go _ q)) (fun q => .inr (go _ q))
theorem BldIs.lt {b : Nat} {acc : ByteArray} {w : World} (h : BldIs b acc w) : b < w.heap.size := h.elim (fun q => q.lt) (fun q => q.lt)
theorem BldIs.fresh (w : World) : BldIs w.heap.size ⟨#[]⟩ (w.alloc (.cells #[.pointer none, .slice none 0 0] 87)) := Lib.fresh_isBuilder 87 5 w
theorem bld_len_is {b : Nat} {acc : ByteArray} {w : World} (h : BldIs b acc w) : Calls Try.prog 62 #[.pointer (some ⟨b, 0, none⟩)] w fun e w' => e = .returned (.int .i64 acc.size) ∧ w' = w := by
  have := Try.Builder_Len b b (Lib.strCells acc) w h
  rw [Lib.strCells_length] at this
  exact this
theorem bld_string_is {b : Nat} {acc : ByteArray} {w : World} (s : ByteArray) (h : BldIs b acc w) (hlen : acc.size + s.size ≤ 140737488355328) : Calls Try.prog 63 #[.pointer (some ⟨b, 0, none⟩), .string s] w fun e w' => e = .returned (.tuple #[.int .i64 s.size, .nilIface]) ∧ BldIs b (acc ++ s) w' ∧ Below b w w' ∧ Keeps w w' := by
  refine (bld_string b b _ s w h (by rw [Lib.strCells_length]; exact hlen) (Nat.le_of_lt h.lt)).mono ?_
  rintro e w' ⟨he, h1, h2, h3⟩
  refine ⟨he, .inr ?_, h2, h3⟩
  have e1 : Lib.strCells (acc ++ s) = Lib.strCells acc ++ Lib.strCells s := by simp [Lib.strCells]
  rw [e1]
  exact h1
theorem bld_zero_is {b : Nat} {acc : ByteArray} {w : World} (h : BldIs b acc w) (hlen : acc.size + 1 ≤ 140737488355328) : Calls Try.prog 64 #[.pointer (some ⟨b, 0, none⟩), .int .u8 0] w fun e w' => e = .returned .nilIface ∧ BldIs b (acc ++ ⟨#[0]⟩) w' ∧ Below b w w' := by
  refine (bld_byte b b _ 0 w h (by rw [Lib.strCells_length]; exact hlen) (Nat.le_of_lt h.lt)).mono ?_
  rintro e w' ⟨he, h1, h2⟩
  refine ⟨he, .inr ?_, h2⟩
  have e1 : Lib.strCells (acc ++ ⟨#[0]⟩) = Lib.strCells acc ++ [.int .u8 0] := by simp [Lib.strCells]
  rw [e1]
  exact h1
theorem bld_done_is {b : Nat} {acc : ByteArray} {w : World} (h : BldIs b acc w) : Calls Try.prog 65 #[.pointer (some ⟨b, 0, none⟩)] w fun e w' => e = .returned (.string acc) ∧ Below b w w' := by
  have := Try.Builder_String_any b b acc.data.toList w (by have h2 : Lib.IsBuilder 87 5 b b (Lib.strCells acc) w := h; simpa [Lib.strCells, Lib.byteCells] using h2) (Nat.le_of_lt h.lt)
  simpa using this
/-! ### ipv4_written: function 36 -/
def ipv4_written.l1 : Nat → ByteArray → Option (ByteArray × Bool)
  | 0, _ => none
  | k + 1, acc => if (acc.size : Int) % 4 ≠ 0 then (if acc.size ≤ 1000000 then ipv4_written.l1 k (acc ++ ⟨#[0]⟩) else none) else some (acc, true)
def ipv4_written.l0 : Nat → List S50 → ByteArray → Int → Option (ByteArray × Bool)
  | 0, _, _, _ => none
  | k + 1, l, acc, x => if x < (l.length : Int) then (if 0 ≤ x then (if ((rd_T50 l x).f1.size : Int) > 38 then some (⟨#[]⟩, false) else (if (acc.size : Int) > 40 then some (⟨#[]⟩, false) else
      ((field_Put.f k (rd_T50 l x).f0 1).bind fun t1 => (field_Put.f k (wrap64 (((rd_T50 l x).f1.size : Int) + 2)) 1).bind fun t2 => if t1.size + t2.size ≤ 1000000 then ipv4_written.l0 k l (acc ++ ((t1 ++ t2) ++ (rd_T50 l x).f1)) (wrap64 (x + 1)) else none))) else none)
    else (if (acc.size : Int) > 40 then some (⟨#[]⟩, false) else ipv4_written.l1 k acc)
def ipv4_written.f (k : Nat) (l : List S50) : Option (ByteArray × Bool) := ipv4_written.l0 k l ⟨#[]⟩ 0
theorem ipv4_written.mono_l1 : ∀ k acc, LeO (ipv4_written.l1 k acc) (ipv4_written.l1 (k + 1) acc)
  | 0, _ => fun r h => by simp [ipv4_written.l1] at h
  | k + 1, acc => by
    unfold ipv4_written.l1
    exact LeO.ite (LeO.ite (ipv4_written.mono_l1 k _) (LeO.none _)) (LeO.refl _)
theorem ipv4_written.mono_l0 : ∀ k l acc x, LeO (ipv4_written.l0 k l acc x) (ipv4_written.l0 (k + 1) l acc x)
  | 0, _, _, _ => fun r h => by simp [ipv4_written.l0] at h
  | k + 1, l, acc, x => by
    unfold ipv4_written.l0
    exact LeO.ite (LeO.ite (LeO.ite (LeO.refl _) (LeO.ite (LeO.refl _) (LeO.bind (field_Put.mono _ _ k) (fun _ => LeO.bind (field_Put.mono _ _ k) (fun _ => LeO.ite (ipv4_written.mono_l0 k _ _ _) (LeO.none _)))))) (LeO.none _)) (LeO.ite (LeO.refl _) (ipv4_written.mono_l1 k _))
theorem ipv4_written.mono : ∀ l k, LeO (ipv4_written.f k l) (ipv4_written.f (k + 1) l) := fun l k => ipv4_written.mono_l0 k l _ _
def ipv4_written.T7 : Bool × List (List Nat × List Nat) := (true, [([], []), ([0], [0]), ([1], [1]), ([], []), ([3], [3]), ([4], [4]), ([5], [5]), ([6, 2], [6]), ([2, 7], [2, 7]), ([], []), ([9], [9]), ([8, 10], [8, 10]), ([11, 7], [11])])
def ipv4_written.B7 : List Nat := [0, 1, 3, 0, 8, 24, 56, 127, 255, 0, 512, 2047, 4095]
theorem ipv4_written.tab7 : rtab .any (opsOf Try.f36 7) = ipv4_written.T7 := by kernel_rfl
theorem ipv4_written.bits7 : waitsOk ipv4_written.T7.2 ipv4_written.B7 = true := by kernel_rfl
set_option maxHeartbeats 8000000 in
set_option maxRecDepth 100000 in
theorem ipv4_written.calls (k : Nat) (A0 : Option Addr) (c0 : Nat) (l0 : List S50) (r1 : ByteArray) (r2 : Bool) (w : World) (hr0 : Kd.C k50 w A0 l0.length l0) (hc0 : l0.length ≤ c0) (h : ipv4_written.f k l0 = some (r1, r2)) :
    Calls Try.prog 36 #[.slice A0 l0.length c0] w fun e w' => e = .returned (.tuple #[.string r1, .bool r2]) ∧ Below w.heap.size w w' := by
  have HR0 := As hr0
  have HC0 := As hc0
  clear hr0 hc0
  have H' := As h
  clear h
  have HB0 := As (below_alloc (Below.refl w.heap.size w) (.cells #[.pointer none, .slice none 0 0] 87))
  have HG0 := As (BldIs.fresh w)
  go_enter Try.func36, Try.ntmps36
  go_wp2
  go_loopg [9] k (fun kq v9 w' => ∃ (x : Int) (acc : ByteArray), v9 = .int .i64 x ∧ Aside0 (ipv4_written.l0 kq l0 acc x = some (r1, r2)) ∧ Aside0 (kq ≤ k) ∧ Aside0 (BldIs w.heap.size acc w') ∧ Aside0 (Below w.heap.size w w'))
  case atStart => exact ⟨0, ⟨#[]⟩, rfl, H', ⟨Nat.le_refl _⟩, HG0, HB0⟩
  clear H' HB0 HG0
  obtain ⟨x, acc, rfl, HA, HK1, HG, HB⟩ := hrel
  cases gk with
  | zero => exact absurd HA.out (by simp [ipv4_written.l0])
  | succ k1 =>
    have H := HA.out
    clear HA
    simp only [ipv4_written.l0] at H
    by_cases c2 : x < (l0.length : Int)
    · rw [if_pos c2] at H
      have c2b0 : decide (x < (l0.length : Int)) = true := decide_eq_true c2
      by_cases c3 : 0 ≤ x
      · rw [if_pos c3] at H
        have c3b0 : decide (0 ≤ x) = true := decide_eq_true c3
        have q1 := eq_true c2
        have q2 := eq_true c3
        obtain ⟨ad, e_, hx0, hx1⟩ := at_T50 (Kd.C_below HR0.out HB.out) x c3 c2
        cases e_
        generalize hyo : rd_T50 l0 x = y at *
        clear c2 c3
        by_cases c4 : (y.f1.size : Int) > 38
        · rw [if_pos c4] at H
          have c4b : decide (38 < (y.f1.size : Int)) = true := decide_eq_true c4
          clear c4
          simp only [Option.some.injEq, Prod.mk.injEq] at H
          obtain ⟨rfl, rfl⟩ := H
          go_wp2
          go_ret2
          exact ⟨rfl, by repeat (first | exact HB.out | apply below_drew1 | apply below_alloc)⟩
        rw [if_neg c4] at H
        have c4b : decide (38 < (y.f1.size : Int)) = false := decide_eq_false c4
        by_cases c5 : (acc.size : Int) > 40
        · rw [if_pos c5] at H
          have c5b : decide (40 < (acc.size : Int)) = true := decide_eq_true c5
          clear c4 c5
          simp only [Option.some.injEq, Prod.mk.injEq] at H
          obtain ⟨rfl, rfl⟩ := H
          go_wp2_with (first | (go_at_call 62; refine (bld_len_is (HG.out.below (by repeat (first | exact Below.refl _ _ | apply below_drew1 | apply below_alloc)))).mono ?_; rintro e w2 ⟨rfl, rfl⟩))
          go_ret2
          exact ⟨rfl, by repeat (first | exact HB.out | apply below_drew1 | apply below_alloc)⟩
        rw [if_neg c5] at H
        have c5b : decide (40 < (acc.size : Int)) = false := decide_eq_false c5
        obtain ⟨t1, T1, H⟩ := Option.bind_eq_some_iff.mp H
        obtain ⟨t2, T2, H⟩ := Option.bind_eq_some_iff.mp H
        by_cases c6 : t1.size + t2.size ≤ 1000000
        · rw [if_pos c6] at H
          have T1 := As T1
          have T2 := As T2
          have H' := As H
          have C4 := As c4
          have C5 := As c5
          have C6 := As c6
          clear c4 c5 c6 H
          go_wp2_with (first | (go_at_call 62; refine (bld_len_is (HG.out.below (by repeat (first | exact Below.refl _ _ | apply below_drew1 | apply below_alloc)))).mono ?_; rintro e w2 ⟨rfl, rfl⟩))
          have HO := As (blk_drew (blk_new wr (.cells #[.int .i64 y.f0, .string y.f1] 50)))
          have HG1 := As (HG.out.below (by repeat (first | exact Below.refl _ _ | apply below_drew1 | apply below_alloc)) : BldIs w.heap.size acc (wr.alloc (.cells #[.int .i64 y.f0, .string y.f1] 50)).drew)
          have HB1 := As (below_drew1 (below_alloc HB.out (.cells #[.int .i64 y.f0, .string y.f1] 50)))
          clear HG HB hx0 hx1
          refine start_ (n := 13) (S := fun w' => w'.cell? ⟨wr.heap.size, 0, none⟩ = some (.int .i64 y.f0) ∧ w'.cell? ⟨wr.heap.size, 1, none⟩ = some (.string y.f1)) (ds := []) #[O, O, O, O, O, O, O, O, O, O, O, O, O] (by kernel_rfl) rfl rfl ⟨kC HO.out 0, kC HO.out 1⟩ (fun hHeld => ?_)
          refine with_tabW ipv4_written.tab7 ipv4_written.bits7 (fun HT_ HW_ => ?_)
          generalize (wr.alloc (.cells #[.int .i64 y.f0, .string y.f1] 50)).drew = W1 at HO HG1 HB1 hHeld ⊢
          refine pure_ (i := 0) (N := some 21) (v := ?_) (a' := ?_) #[I, O, O, O, O, O, O, O, O, O, O, O, O] rfl rfl (any_of HT_.out (by kernel_rfl)) (fun _ _ _ h => h) (Or.inl ⟨by rfl, ?_⟩) ?_ ?_
          rotate_left
          · intro w'
            go_simp
            with_reducible rfl
          rotate_left
          · simp only [Act.put, sA, sZ, sS, i64_w, i32_w]
            rfl
          refine pure_ (i := 3) (N := some 24) (v := ?_) (a' := ?_) #[I, O, O, I, O, O, O, O, O, O, O, O, O] rfl rfl (any_of HT_.out (by kernel_rfl)) (fun _ _ _ h => h) (Or.inl ⟨by rfl, ?_⟩) ?_ ?_
          rotate_left
          · intro w'
            go_simp
            with_reducible rfl
          rotate_left
          · simp only [Act.put, sA, sZ, sS, i64_w, i32_w]
            rfl
          refine pure_ (i := 9) (N := some 30) (v := ?_) (a' := ?_) #[I, O, O, I, O, O, O, O, O, I, O, O, O] rfl rfl (any_of HT_.out (by kernel_rfl)) (fun _ _ _ h => h) (Or.inl ⟨by rfl, ?_⟩) ?_ ?_
          rotate_left
          · intro w'
            go_simp
            with_reducible rfl
          rotate_left
          · simp only [Act.put, sA, sZ, sS, i64_w, i32_w]
            rfl
          refine take_ (i := 1) (N := some 22) (v := ?_) (a' := ?_) #[I, I, O, I, O, O, O, O, O, I, O, O, O] rfl rfl (take_ofW HT_.out HW_.out (by kernel_rfl)) (fun _ _ _ h => h) (Or.inl ⟨by rfl, ?_⟩) hHeld ?_ ?_
          rotate_left
          · rintro w' ⟨s0, s1⟩
            go_simp
            with_reducible rfl
          rotate_left
          · simp only [Act.put, sA, sZ, sS, i64_w, i32_w]
            rfl
          refine take_ (i := 4) (N := some 25) (v := ?_) (a' := ?_) #[I, I, O, I, I, O, O, O, O, I, O, O, O] rfl rfl (take_ofW HT_.out HW_.out (by kernel_rfl)) (fun _ _ _ h => h) (Or.inl ⟨by rfl, ?_⟩) hHeld ?_ ?_
          rotate_left
          · rintro w' ⟨s0, s1⟩
            go_simp
            with_reducible rfl
          rotate_left
          · simp only [Act.put, sA, sZ, sS, i64_w, i32_w]
            rfl
          refine take_ (i := 10) (N := some 31) (v := ?_) (a' := ?_) #[I, I, O, I, I, O, O, O, O, I, I, O, O] rfl rfl (take_ofW HT_.out HW_.out (by kernel_rfl)) (fun _ _ _ h => h) (Or.inl ⟨by rfl, ?_⟩) hHeld ?_ ?_
          rotate_left
          · rintro w' ⟨s0, s1⟩
            go_simp
            with_reducible rfl
          rotate_left
          · simp only [Act.put, sA, sZ, sS, i64_w, i32_w]
            rfl
          refine pure_ (i := 5) (N := some 26) (v := ?_) (a' := ?_) #[I, I, O, I, I, I, O, O, O, I, I, O, O] rfl rfl (any_of HT_.out (by kernel_rfl)) (fun _ _ _ h => h) (Or.inl ⟨by rfl, ?_⟩) ?_ ?_
          rotate_left
          · intro w'
            go_simp
            with_reducible rfl
          rotate_left
          · simp only [Act.put, sA, sZ, sS, i64_w, i32_w]
            rfl
          refine pure_ (i := 6) (N := some 27) (v := ?_) (a' := ?_) #[I, I, O, I, I, I, I, O, O, I, I, O, O] rfl rfl (any_of HT_.out (by kernel_rfl)) (fun _ _ _ h => h) (Or.inl ⟨by rfl, ?_⟩) ?_ ?_
          rotate_left
          · intro w'
            go_simp
            with_reducible rfl
          rotate_left
          · simp only [Act.put, sA, sZ, sS, i64_w, i32_w]
            rfl
          refine one_ (i := 2) (N := some 23) #[I, I, I, I, I, I, I, O, O, I, I, O, O] rfl rfl (one_of HT_.out (by kernel_rfl)) (by decide) (fun K hK => ?_)
          refine goes_ Try.func37 (by kernel_rfl) rfl #[.int .i64 y.f0, .int .i64 1] (by rfl) rfl rfl (by (try simp only [List.map_toArray, List.map_cons, List.map_nil]); first | done | rfl) ?_
          with_reducible refine (field_Put.calls k1 y.f0 1 t1 _ T1.out).mono ?_
          rintro e W2 ⟨rfl, hb⟩
          refine ⟨_, rfl, ?_⟩
          have HO' := As (blk_below HO.out hb)
          have HG1' := As (HG1.out.below hb)
          have HB1' := As (below_step HB1.out hb)
          clear HO HG1 HB1 hHeld hb
          refine hK.out _ _ ⟨(blk_cell HO'.out 0).trans rfl, (blk_cell HO'.out 1).trans rfl⟩ (fun hHeld => ?_)
          clear hK K
          refine norm_ (a' := ?_) ?_ ?_
          rotate_left
          · show Act.put _ (some 23) _ = _
            simp only [Act.put, sA, sZ, sS, i64_w, i32_w]
            rfl
          refine one_ (i := 7) (N := some 28) #[I, I, I, I, I, I, I, I, O, I, I, O, O] rfl rfl (one_of HT_.out (by kernel_rfl)) (by decide) (fun K hK => ?_)
          refine goes_ Try.func37 (by kernel_rfl) rfl #[.int .i64 (wrap64 ((y.f1.size : Int) + 2)), .int .i64 1] (by rfl) rfl rfl (by (try simp only [List.map_toArray, List.map_cons, List.map_nil]); first | done | rfl) ?_
          with_reducible refine (field_Put.calls k1 (wrap64 ((y.f1.size : Int) + 2)) 1 t2 _ T2.out).mono ?_
          rintro e W3 ⟨rfl, hb⟩
          refine ⟨_, rfl, ?_⟩
          have HO'' := As (blk_below HO'.out hb)
          have HG1'' := As (HG1'.out.below hb)
          have HB1'' := As (below_step HB1'.out hb)
          clear HO' HG1' HB1' hHeld hb
          refine hK.out _ _ ⟨(blk_cell HO''.out 0).trans rfl, (blk_cell HO''.out 1).trans rfl⟩ (fun hHeld => ?_)
          clear hK K
          refine norm_ (a' := ?_) ?_ ?_
          rotate_left
          · show Act.put _ (some 28) _ = _
            simp only [Act.put, sA, sZ, sS, i64_w, i32_w]
            rfl
          have z1 : (9223372036854775807 < t1.size + t2.size) = False := eq_false (by have := C6.out; omega)
          have z2 : (9223372036854775807 < t1.size + t2.size + y.f1.size) = False := eq_false (by have := C6.out; have := C4.out; omega)
          have z3 : (9223372036854775807 < (t1 ++ t2).size) = False := eq_false (by have := C6.out; rw [ByteArray.size_append]; omega)
          have z4 : (9223372036854775807 < (t1 ++ t2).size + y.f1.size) = False := eq_false (by have := C6.out; have := C4.out; rw [ByteArray.size_append]; omega)
          refine pure_ (i := 8) (N := some 29) (v := ?_) (a' := ?_) #[I, I, I, I, I, I, I, I, I, I, I, O, O] rfl rfl (any_of HT_.out (by kernel_rfl)) (fun _ _ _ h => h) (Or.inl ⟨by rfl, ?_⟩) ?_ ?_
          rotate_left
          · intro w'
            go_simp
            with_reducible rfl
          rotate_left
          · simp only [Act.put, sA, sZ, sS, i64_w, i32_w]
            rfl
          refine pure_ (i := 11) (N := some 32) (v := ?_) (a' := ?_) #[I, I, I, I, I, I, I, I, I, I, I, I, O] rfl rfl (any_of HT_.out (by kernel_rfl)) (fun _ _ _ h => h) (Or.inl ⟨by rfl, ?_⟩) ?_ ?_
          rotate_left
          · intro w'
            go_simp
            with_reducible rfl
          rotate_left
          · simp only [Act.put, sA, sZ, sS, i64_w, i32_w]
            rfl
          refine one_ (i := 12) (N := some 33) #[I, I, I, I, I, I, I, I, I, I, I, I, I] rfl rfl (one_of HT_.out (by kernel_rfl)) (by decide) (fun K hK => ?_)
          refine goes_ Try.func63 (by kernel_rfl) rfl #[.pointer (some ⟨w.heap.size, 0, none⟩), .string ((t1 ++ t2) ++ y.f1)] (by rfl) rfl rfl (by (try simp only [List.map_toArray, List.map_cons, List.map_nil]); first | done | rfl) ?_
          refine (bld_string_is ((t1 ++ t2) ++ y.f1) HG1''.out (by have := C6.out; have := C4.out; have := C5.out; simp only [ByteArray.size_append]; omega)).mono ?_
          rintro e W4 ⟨rfl, hg, hb, hk⟩
          refine ⟨_, rfl, ?_⟩
          have HO4 := hk _ _ _ (by decide) (by decide) HO''.out
          have HB4 := As (HB1''.out.trans hb)
          have HG4 := As hg
          clear hg hb hk HG1'' HB1'' hHeld
          refine hK.out _ _ ⟨kC HO4 0, kC HO4 1⟩ (fun hHeld => ?_)
          clear hK K
          refine norm_ (a' := ?_) ?_ ?_
          rotate_left
          · show Act.put _ (some 33) _ = _
            simp only [Act.put, sA, sZ, sS, i64_w, i32_w]
            rfl
          refine done_ (done_of HT_.out (by kernel_rfl)) ?_
          clear HT_ HW_ HO4 HO'' hHeld
          go_wp2
          go_roundg k1
          case measure => have := HK1.out; omega
          case rel => exact ⟨wrap64 (x + 1), acc ++ ((t1 ++ t2) ++ y.f1), rfl, H', ⟨by have := HK1.out; omega⟩, HG4, HB4⟩
        rw [if_neg c6] at H
        exact absurd H (by simp)
      rw [if_neg c3] at H
      exact absurd H (by simp)
    rw [if_neg c2] at H
    have c2b0 : decide (x < (l0.length : Int)) = false := decide_eq_false c2
    clear c2
    by_cases c5 : (acc.size : Int) > 40
    · rw [if_pos c5] at H
      have c5b : decide (40 < (acc.size : Int)) = true := decide_eq_true c5
      clear c5
      simp only [Option.some.injEq, Prod.mk.injEq] at H
      obtain ⟨rfl, rfl⟩ := H
      go_wp2_with (first | (go_at_call 62; refine (bld_len_is (HG.out.below (by repeat (first | exact Below.refl _ _ | apply below_drew1 | apply below_alloc)))).mono ?_; rintro e w2 ⟨rfl, rfl⟩))
      go_ret2
      exact ⟨rfl, by repeat (first | exact HB.out | apply below_drew1 | apply below_alloc)⟩
    rw [if_neg c5] at H
    have c5b : decide (40 < (acc.size : Int)) = false := decide_eq_false c5
    clear c5
    have H' := As H
    clear H
    go_wp2_with (first | (go_at_call 62; refine (bld_len_is (HG.out.below (by repeat (first | exact Below.refl _ _ | apply below_drew1 | apply below_alloc)))).mono ?_; rintro e w2 ⟨rfl, rfl⟩))
    go_loopg [] k1 (fun kq w' => ∃ (acc : ByteArray), Aside0 (ipv4_written.l1 kq acc = some (r1, r2)) ∧ Aside0 (kq ≤ k1) ∧ Aside0 (BldIs w.heap.size acc w') ∧ Aside0 (Below w.heap.size w w'))
    case atStart => exact ⟨acc, H', ⟨Nat.le_refl _⟩, HG, HB⟩
    clear H' HG HB c5b c2b0
    obtain ⟨acc, HA, HK1, HG, HB⟩ := hrel
    cases gk with
    | zero => exact absurd HA.out (by simp [ipv4_written.l1])
    | succ k2 =>
      have H := HA.out
      clear HA
      simp only [ipv4_written.l1] at H
      have s0 : (0 : Int) ≤ (acc.size : Int) := by omega
      by_cases c7 : (acc.size : Int) % 4 ≠ 0
      · rw [if_pos c7] at H
        have c7a : ((acc.size : Int) % 4 != 0) = true := bne_iff_ne.mpr c7
        have c7b : ((acc.size : Int) % 4 == 0) = false := beq_eq_false_iff_ne.mpr c7
        by_cases c8 : acc.size ≤ 1000000
        · rw [if_pos c8] at H
          have H' := As H
          have C8 := As c8
          clear H c7 c8
          go_wp2_with (first | (go_at_call 62; refine (bld_len_is HG.out).mono ?_; rintro e w3 ⟨rfl, rfl⟩) | (go_at_call 64; refine (bld_zero_is HG.out (by have := C8.out; omega)).mono ?_; rintro e w4 ⟨rfl, hg, hb⟩; have HG4 := As hg; have HB4 := As (HB.out.trans hb); clear hg hb))
          go_roundg k2
          case measure => have := HK1.out; omega
          case rel => exact ⟨acc ++ ⟨#[0]⟩, H', ⟨by have := HK1.out; omega⟩, HG4, HB4⟩
        rw [if_neg c8] at H
        exact absurd H (by simp)
      rw [if_neg c7] at H
      have c7c : (acc.size : Int) % 4 = 0 := Decidable.not_not.mp c7
      have c7a : ((acc.size : Int) % 4 != 0) = false := bne_eq_false_iff_eq.mpr c7c
      have c7b : ((acc.size : Int) % 4 == 0) = true := beq_iff_eq.mpr c7c
      clear c7 c7c
      simp only [Option.some.injEq, Prod.mk.injEq] at H
      obtain ⟨rfl, rfl⟩ := H
      go_wp2_with (first | (go_at_call 62; refine (bld_len_is HG.out).mono ?_; rintro e w3 ⟨rfl, rfl⟩) | (go_at_call 65; refine (bld_done_is HG.out).mono ?_; rintro e w4 ⟨rfl, hb⟩; have HB4 := As (HB.out.trans hb); clear hb))
      go_ret2
      exact ⟨rfl, by repeat (first | exact HB4.out | apply below_drew1)⟩

/-! ### address_bytes: function 66 -/
def address_bytes.l0 : Nat → Int → Int → List Int → Int → Int → Option (ByteArray)
 | 0, _, _, _, _, _ => none
 | k + 1, x0, x1, x5, x7, x8 => if x8 < x7 then (if 0 ≤ (wrap64 (8 * (wrap64 ((wrap64 (x1 - 1)) - x8)))) then (if x5.length < 140737488355328 then (address_bytes.l0 k x0 x1 (x5 ++ [(shr .u64 x0 (wrap64 (8 * (wrap64 ((wrap64 (x1 - 1)) - x8))))) % 256]) x7 (wrap64 (x8 + 1))) else (none)) else (none)) else (some (strOfNums x5))
def address_bytes.f (k : Nat) (a0 : Int) (a1 : Int) : Option (ByteArray) := address_bytes.l0 k a0 a1 ([] : List Int) a1 0
theorem address_bytes.mono_l : ∀ k, (∀ y0 y1 y2 y3 y4, LeO (address_bytes.l0 k y0 y1 y2 y3 y4) (address_bytes.l0 (k + 1) y0 y1 y2 y3 y4))
 | 0 => fun _ _ _ _ _ r h => by simp [address_bytes.l0] at h
 | k + 1 => by
  have ih0 := address_bytes.mono_l k
  intro y0 y1 y2 y3 y4
  unfold address_bytes.l0
  repeat' first | with_reducible first | apply ih0 | apply LeO.refl | apply LeO.none | refine LeO.ite ?_ ?_ | refine LeO.bind ?_ (fun _ => ?_)
theorem address_bytes.mono : ∀ a0 a1 k, LeO (address_bytes.f k a0 a1) (address_bytes.f (k + 1) a0 a1) := by
 intro a0 a1 k
 have ih0 := address_bytes.mono_l k
 unfold address_bytes.f
 repeat' first | with_reducible first | apply ih0 | apply LeO.refl | apply LeO.none | refine LeO.ite ?_ ?_ | refine LeO.bind ?_ (fun _ => ?_)
set_option maxHeartbeats 8000000 in
set_option maxRecDepth 100000 in
theorem address_bytes.calls (k : Nat) (a0 : Int) (a1 : Int) (r : ByteArray) (w : World) (h : address_bytes.f k a0 a1 = some r) :
  Calls Try.prog 66 #[.int .u64 a0, .int .i64 a1] w fun e w' => e = .returned (.string r) ∧ Below w.heap.size w w' := by
 have HB := As (Below.refl w.heap.size w)
 have H : (address_bytes.l0 k a0 a1 ([] : List Int) a1 0) = some r := h
 clear h
 have H' := As H
 clear H
 go_enter Try.func66, Try.ntmps66
 go_wp2
 go_loopg [5, 8] k (fun kq v5 v8 w' => ∃ (x5_1 : List Int) (x8_1 : Int), v8 = .int .i64 x8_1 ∧ Aside0 (address_bytes.l0 kq a0 a1 x5_1 a1 x8_1 = some r) ∧ Aside0 (kq ≤ k) ∧ Aside0 (Kd.R (Kd.int .u8) 5 w' w.heap.size (fun _ => True) v5 x5_1) ∧ Aside0 (Below w.heap.size w w'))
 case atStart => exact ⟨(([] : List Int)), (0), kS, H', ⟨Nat.le_refl _⟩, ⟨by first | exact Kd.R_nil _ _ _ _ _ | exact Kd.N_nil _ _ _ _ _ | exact Kd.V_nil _ _ _ _ _ | exact Kd.Q_nil _ _ _ _ _ | exact Kd.S_nil _ _ _ _ _⟩, ⟨kB HB.out⟩⟩
 clear H'
 obtain ⟨x5_1, x8_1, rfl, HA, HK1, HO_5, HB⟩ := hrel
 cases gk with
 | zero => exact absurd HA.out (by simp [address_bytes.l0])
 | succ k1 =>
  have H := HA.out
  clear HA
  simp only [address_bytes.l0] at H
  by_cases c3 : x8_1 < a1
  ·rw [if_pos c3] at H
   have c3b0 : decide (x8_1 < a1) = true := decide_eq_true c3
   clear c3
   obtain ⟨ji4, hji4⟩ : ∃ j_ : Int, (wrap64 (8 * (wrap64 ((wrap64 (a1 - 1)) - x8_1)))) = j_ := ⟨_, rfl⟩
   replace H : (if 0 ≤ (ji4) then (if x5_1.length < 140737488355328 then (address_bytes.l0 k1 a0 a1 (x5_1 ++ [(shr .u64 a0 (ji4)) % 256]) a1 (wrap64 (x8_1 + 1))) else (none)) else (none)) = some r := by first | (rw [hji4] at H; exact H) | (simp only [hji4] at H ⊢; exact H)
   have hji4w : (IntKind.i64.wrap (8 * (wrap64 ((wrap64 (a1 - 1)) - x8_1)))) = ji4 := (i64_w _).trans hji4
   replace H := iS H
   obtain ⟨c5, H⟩ := H
   have c5b0 := eq_true c5
   have c5b1 := decide_eq_true c5
   clear c5
   obtain ⟨ji6, hji6⟩ : ∃ j_ : Int, (shr .u64 a0 (ji4)) = j_ := ⟨_, rfl⟩
   replace H : (if x5_1.length < 140737488355328 then (address_bytes.l0 k1 a0 a1 (x5_1 ++ [(ji6) % 256]) a1 (wrap64 (x8_1 + 1))) else (none)) = some r := by first | (rw [hji6] at H; exact H) | (simp only [hji6] at H ⊢; exact H)
   have hji6_ : (a0 / 2 ^ min (ji4).toNat 64) = ji6 := hji6
   have hji6z : (ji4) ≤ 64 → (a0 / 2 ^ (ji4).toNat) = ji6 := shr_small hji6
   replace H := iS H
   obtain ⟨c7, H⟩ := H
   have LMc7 := As c7
   clear c7
   obtain ⟨y216, hy216⟩ : ∃ y_ : List Int, y_ = (x5_1 ++ [(ji6) % 256]) := ⟨_, rfl⟩
   replace H : (address_bytes.l0 k1 a0 a1 y216 a1 (wrap64 (x8_1 + 1))) = some r := by first | (rw [hy216]; with_reducible exact H) | (have H2_ := (Option.bind_some _ _).symm.trans H; rw [hy216]; with_reducible exact H2_) | (have H2_ := (Option.bind_some _ _).symm.trans H; with_reducible exact H2_) | with_reducible exact H | (rw [hy216]; exact H) | exact H
   have Ny216 := As hy216
   clear hy216
   have H' := As H
   clear H
   go_wp2_with (first | ((with_reducible refine gate_builtin (b := .append) (xs := #[.tmp 11, .tmp 20]) rfl ?_); at_builtin; refine Kd.R_append (Kd.int .u8) (w0 := w) w.heap.size rfl (.tmp 11) (.tmp 20) 46 5 (.int .u8 0) 1 rfl Try.underlying46 info5 rfl (by decide) (by omega) u5 x5_1 ((ji6) % 256) [.int .u8 ((ji6) % 256)] (fun _ => True) (fun _ => False) rfl rfl ?aP (fun _ hk => hk.elim) ?aF ?aO ?aB ?aS ?aL ?_; (case aP => exact rfl); (case aB => exact (kB HB.out)); (case aF => exact (fun _ _ => trivial)); (case aO => exact (kR HO_5.out)); (case aS => exact (below_size (kB HB.out))); (case aL => have := LMc7.out; omega); intro v217 w8 ho hb hg hat; rw [← Ny216.out] at ho; replace HB := As (hb); have HO218 := As (ho); clear HO_5; clear ho hb hg hat))
   go_roundg k1
   case measure => have := HK1.out; omega
   case rel => exact ⟨(y216), (wrap64 (x8_1 + 1)), kS, H', ⟨by have := HK1.out; omega⟩, ⟨by (with_reducible repeat (first | apply Kd.R_alloc | apply Kd.R_drewN | apply Kd.R_drew)); exact HO218.out⟩, ⟨kB HB.out⟩⟩
  rw [if_neg c3] at H
  have c3b0 : decide (x8_1 < a1) = false := decide_eq_false c3
  clear c3
  obtain rfl := Option.some.inj H
  have hcv9 := own_string (P := Try.prog) Try.underlying46 Try.underlying5 Try.underlying9 (Kd.own_of_R HO_5.out)
  go_wp2
  go_ret
  exact ⟨kE, by exact kB HB.out⟩

/-! ### address_Bytes: function 38 -/
def address_Bytes.f (k : Nat) (a0_0 : Bool) (a0_1 : Int) (a0_2 : Int) : Option (ByteArray) := if a0_0 = true then ((address_bytes.f k a0_1 8).bind fun t220 => ((address_bytes.f k a0_2 8).bind fun t221 => (if t220.size + t221.size ≤ 9223372036854775807 then (some (t220 ++ t221)) else (none)))) else ((address_bytes.f k a0_2 4).bind fun t222 => (some t222))
theorem address_Bytes.mono : ∀ a0 a1 a2 k, LeO (address_Bytes.f k a0 a1 a2) (address_Bytes.f (k + 1) a0 a1 a2) := by
 intro a0 a1 a2 k
 unfold address_Bytes.f
 repeat' first | with_reducible first | apply address_bytes.mono | apply LeO.refl | apply LeO.none | refine LeO.ite ?_ ?_ | refine LeO.bind ?_ (fun _ => ?_)
def address_Bytes.T2 : Bool × List (List Nat × List Nat) := (true, [([], []), ([0], [0]), ([1], [1]), ([], []), ([3], [3]), ([4, 2], [4]), ([2, 5], [2, 5]), ([6, 5, 0, 1, 2, 3, 4, 5, 6], [6])])
def address_Bytes.B2 : List Nat := [0, 1, 3, 0, 8, 31, 63, 127]
theorem address_Bytes.tab2 : rtab .any (opsOf Try.f38 2) = address_Bytes.T2 := by kernel_rfl
theorem address_Bytes.bits2 : waitsOk address_Bytes.T2.2 address_Bytes.B2 = true := by kernel_rfl
set_option maxHeartbeats 8000000 in
set_option maxRecDepth 100000 in
theorem address_Bytes.calls (k : Nat) (a0_0 : Bool) (a0_1 : Int) (a0_2 : Int) (r : ByteArray) (w : World) (h : address_Bytes.f k a0_0 a0_1 a0_2 = some r) :
  Calls Try.prog 38 #[.agg #[.bool a0_0, .int .u64 a0_1, .int .u64 a0_2]] w fun e w' => e = .returned (.string r) ∧ Below w.heap.size w w' := by
 have hu25 := Try.underlying25
 have HB := As (Below.refl w.heap.size w)
 have H : (if a0_0 = true then ((address_bytes.f k a0_1 8).bind fun t220 => ((address_bytes.f k a0_2 8).bind fun t221 => (if t220.size + t221.size ≤ 9223372036854775807 then (some (t220 ++ t221)) else (none)))) else ((address_bytes.f k a0_2 4).bind fun t222 => (some t222))) = some r := h
 clear h
 by_cases c2 : a0_0 = true
 ·subst c2
  rw [if_pos rfl] at H
  replace H := bS H
  obtain ⟨t220, A3, H⟩ := H
  replace H := bS H
  obtain ⟨t221, A4, H⟩ := H
  replace H := iS H
  obtain ⟨c5, H⟩ := H
  have c5b0 := eq_true c5
  have c5b1 := decide_eq_true c5
  try have c5b2 := eq_false (Nat.not_lt.2 c5)
  obtain rfl := Option.some.inj H
  go_enter Try.func38, Try.ntmps38
  try go_wp2_with (first | ((with_reducible refine gate_dst (N := 1) rfl ?_); refine box_event rfl (N := 1) rfl (cs := #[.bool true, .int .u64 a0_1, .int .u64 a0_2]) (t := 25) kG ?_; intro gb219 hg w6 hbox hb; have BK219 := As (hbox); have GW219 := As (gS hg (below_size (kB HB.out))); have GE219 := As (gS hg (below_size (kB HB.out))); replace HB := As (below_step (kB HB.out) hb); clear hb hbox hg; have hcz7_0 := cells_3 BK219.out; have hfz7_0 := fun j_ => blk_frozen BK219.out j_))
  replace BK219 := As (blk_drew BK219.out)
  replace HB := As (below_drew1 HB.out)
  refine start_ (n := 8) (S := fun w' => w'.cell? ⟨gb219, 0, none⟩ = some (.bool true) ∧ w'.cell? ⟨gb219, 1, none⟩ = some (.int .u64 a0_1) ∧ w'.cell? ⟨gb219, 2, none⟩ = some (.int .u64 a0_2)) (ds := []) #[O, O, O, O, O, O, O, O] (by kernel_rfl) rfl rfl ⟨kC BK219.out 0, kC BK219.out 1, kC BK219.out 2⟩ (fun hHeld => ?_); refine with_tabW address_Bytes.tab2 address_Bytes.bits2 (fun HT_ HW_ => ?_)
  generalize w6.drew = w8 at BK219 HB hHeld ⊢
  refine kP 0 5 #[I, O, O, O, O, O, O, O] ?_ (any_of HT_.out (by kernel_rfl))
  refine kP 3 8 #[I, O, O, I, O, O, O, O] ?_ (any_of HT_.out (by kernel_rfl))
  refine take_ (i := 1) (N := some 6) (v := ?_) (a' := ?_) #[I, I, O, I, O, O, O, O] rfl rfl (take_ofW HT_.out HW_.out (by kernel_rfl)) (fun _ _ _ h => h) (Or.inl ⟨by rfl, ?_⟩) hHeld ?_ ?_
  rotate_left
  ·rintro w' ⟨s0, s1, s2⟩
   go_simp
   with_reducible rfl
  rotate_left
  ·simp only [Act.put, sA, sZ, sS, i64_w, i32_w]
   rfl
  refine take_ (i := 4) (N := some 9) (v := ?_) (a' := ?_) #[I, I, O, I, I, O, O, O] rfl rfl (take_ofW HT_.out HW_.out (by kernel_rfl)) (fun _ _ _ h => h) (Or.inl ⟨by rfl, ?_⟩) hHeld ?_ ?_
  rotate_left
  ·rintro w' ⟨s0, s1, s2⟩
   go_simp
   with_reducible rfl
  rotate_left
  ·simp only [Act.put, sA, sZ, sS, i64_w, i32_w]
   rfl
  refine one_ (i := 2) (N := some 7) #[I, I, I, I, I, O, O, O] rfl rfl (one_of HT_.out (by kernel_rfl)) (by decide) (fun K hK => ?_)
  refine goes_ Try.func66 (by kernel_rfl) rfl #[.int .u64 a0_1, .int .i64 8] (by rfl) rfl rfl kA ?_
  with_reducible refine (address_bytes.calls k a0_1 8 t220 _ A3.out).mono ?_
  rintro e w9 ⟨rfl, hb⟩
  refine ⟨_, rfl, ?_⟩
  replace BK219 := As (blk_below (kb BK219.out) hb)
  replace HB := As (below_step (kB1 HB.out GE219.out) hb)
  (try clear hb)
  (try clear hb2)
  (try clear hk)
  (try clear hi)
  refine hK.out _ _ ⟨kC BK219.out 0, kC BK219.out 1, kC BK219.out 2⟩ (fun hHeld => ?_)
  clear hK K
  refine nP ?_
  refine one_ (i := 5) (N := some 10) #[I, I, I, I, I, I, O, O] rfl rfl (one_of HT_.out (by kernel_rfl)) (by decide) (fun K hK => ?_)
  refine goes_ Try.func66 (by kernel_rfl) rfl #[.int .u64 a0_2, .int .i64 8] (by rfl) rfl rfl kA ?_
  with_reducible refine (address_bytes.calls k a0_2 8 t221 _ A4.out).mono ?_
  rintro e w10 ⟨rfl, hb⟩
  refine ⟨_, rfl, ?_⟩
  replace BK219 := As (blk_below (kb BK219.out) hb)
  replace HB := As (below_step (kB1 HB.out GE219.out) hb)
  (try clear hb)
  (try clear hb2)
  (try clear hk)
  (try clear hi)
  refine hK.out _ _ ⟨kC BK219.out 0, kC BK219.out 1, kC BK219.out 2⟩ (fun hHeld => ?_)
  clear hK K
  refine nP ?_
  refine kP 6 11 #[I, I, I, I, I, I, I, O] ?_ (any_of HT_.out (by kernel_rfl))
  refine kP 7 2 #[I, I, I, I, I, I, I, I] ?_ (any_of HT_.out (by kernel_rfl))
  refine done_ (done_of HT_.out (by kernel_rfl)) ?_
  try go_wp2
  go_ret
  exact ⟨kE, by exact kB1 HB.out GE219.out⟩
 replace c2 := Bool.eq_false_iff.mpr c2
 subst c2
 rw [if_neg (show ¬ (false = true) by decide)] at H
 replace H := bS H
 obtain ⟨t222, A11, H⟩ := H
 obtain rfl := Option.some.inj H
 go_enter Try.func38, Try.ntmps38
 go_wp2_with (first | ((with_reducible refine gate_dst (N := 1) rfl ?_); refine box_event rfl (N := 1) rfl (cs := #[.bool false, .int .u64 a0_1, .int .u64 a0_2]) (t := 25) kG ?_; intro gb219 hg w12 hbox hb; have BK219 := As (hbox); have GW219 := As (gS hg (below_size (kB HB.out))); have GE219 := As (gS hg (below_size (kB HB.out))); replace HB := As (below_step (kB HB.out) hb); clear hb hbox hg; have hcz13_0 := cells_3 BK219.out; have hfz13_0 := fun j_ => blk_frozen BK219.out j_) | ((with_reducible refine gate_callee (f := 66) rfl ?_); refine goesL_ (some 14) rfl rfl Try.func66 (by kernel_rfl) rfl #[.int .u64 a0_2, .int .i64 4] rfl kA ?_; (with_reducible refine (address_bytes.calls k a0_2 4 t222 _ A11.out).mono ?_); rintro e w14 ⟨rfl, hb⟩; refine ⟨_, rfl, ?_⟩; replace BK219 := As (blk_below (kb BK219.out) hb); replace HB := As (below_step (kB1 HB.out GE219.out) hb); (try clear hb)))
 go_ret
 exact ⟨kE, by exact kB1 HB.out GE219.out⟩

end Go.Proofs.Ytobioaommmgehaa.Z
-- short
-- short2
