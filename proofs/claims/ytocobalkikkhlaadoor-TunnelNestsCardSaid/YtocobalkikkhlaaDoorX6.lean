/- Functions and their walks, printed by xprint.py. -/
import Derived.Test.YtocobalkikkhlaaDoorX0
import Derived.Test.YtocobalkikkhlaaDoorX4
import Derived.Test.YtocobalkikkhlaaDoorX5
namespace Go.Proofs.YtocobalkikkhlaaDoor.X
open Go.RowKit Go.Proofs.YtocobalkikkhlaaDoorW.PrintWords Go.Proofs.YtocobalkikkhlaaDoorW.PrintLast Go.Proofs.YtocobalkikkhlaaDoorW.PrintMore
attribute [local go_sem] max2_int min2_int max_two min_two max_three min_three max_four min_four   -- for this text's walks alone
set_option linter.unusedVariables false
set_option linter.unusedSimpArgs false

/-- A state of type 136 at block g of W; what its slices lead to came in by w0. -/
def IsS136 (w0 W : World) (g : Nat) (f0 : ByteArray) (f1 : Int) (f2 : Int) : Prop := W.heap[g]? = some (.cells #[.string f0, .int .i64 f1, .int .i64 f2] 136 (0, 0)) ∧ w0.heap.size ≤ g
theorem IsS136.grown {w0 W : World} {g : Nat} {f0 : ByteArray} {f1 : Int} {f2 : Int} {W1 : World} {row : Option Nat} (h : IsS136 w0 W g f0 f1 f2) (hw : W.grownBy W1 row) (hne : some g ≠ row) : IsS136 w0 W1 g f0 f1 f2 := by
 obtain ⟨hb, hg⟩ := h
 exact ⟨blk_grown hb hw hne, hg⟩
theorem IsS136.own_neN {w0 W : World} {g : Nat} {f0 : ByteArray} {f1 : Int} {f2 : Int} {α : Type} {d : Kd α} {e : Nat} {base : Nat} {ok : Nat → Prop} {v : Value} {xs : List α} (h : IsS136 w0 W g f0 f1 f2) (ho : Kd.N d e W base ok v xs) (ht : e ≠ 136) : some g ≠ v.ownBlock := by
 obtain ⟨hb, hg⟩ := h
 exact Kd.N_ne ho hb ht
theorem IsS136.fresh {w0 W : World} {g : Nat} {f0 : ByteArray} {f1 : Int} {f2 : Int} (h : IsS136 w0 W g f0 f1 f2) : ∀ k, W.heap.size ≤ k → k ≠ g := by
 obtain ⟨hb, hg⟩ := h
 exact Kd.freshB hb
theorem IsS136.kept {w0 W : World} {g : Nat} {f0 : ByteArray} {f1 : Int} {f2 : Int} {W1 : World} {S : Nat → Prop} (h : IsS136 w0 W g f0 f1 f2) (hk : Kept W W1 S) (hne : ¬ S g) : IsS136 w0 W1 g f0 f1 f2 := by
 obtain ⟨hb, hg⟩ := h
 exact ⟨blk_kept hb hk hne, hg⟩
theorem IsS136.below {w0 W : World} {g : Nat} {f0 : ByteArray} {f1 : Int} {f2 : Int} {W1 : World} (h : IsS136 w0 W g f0 f1 f2) (hw : Below W.heap.size W W1) : IsS136 w0 W1 g f0 f1 f2 := h.grown (grown_of_below hw none) (by simp)
theorem IsS136.alloc {w0 W : World} {g : Nat} {f0 : ByteArray} {f1 : Int} {f2 : Int} (h : IsS136 w0 W g f0 f1 f2) (o : Obj) : IsS136 w0 (W.alloc o) g f0 f1 f2 := h.below (below_alloc (Below.refl _ _) o)
theorem IsS136.drewN {w0 W : World} {g : Nat} {f0 : ByteArray} {f1 : Int} {f2 : Int} (h : IsS136 w0 W g f0 f1 f2) (m : Nat) : IsS136 w0 (W.drewN m) g f0 f1 f2 := h
theorem IsS136.drew {w0 W : World} {g : Nat} {f0 : ByteArray} {f1 : Int} {f2 : Int} (h : IsS136 w0 W g f0 f1 f2) : IsS136 w0 W.drew g f0 f1 f2 := h
theorem IsS136.at_ {w0 W : World} {g : Nat} {f0 : ByteArray} {f1 : Int} {f2 : Int} {w' : World} {m : Nat} (hq : W.drewN m = w') (h : IsS136 w0 W g f0 f1 f2) : IsS136 w0 w' g f0 f1 f2 := by subst hq; exact IsS136.drewN h m
theorem IsS136.apart {w0 W : World} {g : Nat} {f0 : ByteArray} {f1 : Int} {f2 : Int} {α : Type} {d : Kd α} {e : Nat} {base : Nat} {ok : Nat → Prop} {v : Value} {xs : List α} (h : IsS136 w0 W g f0 f1 f2) (ho : d.R e W base ok v xs) (ht : ∀ q, q ∈ e :: d.E → q ≠ 136) : d.R e W base (fun k => ok k ∧ k ≠ g) v xs := by
 obtain ⟨hb, hg⟩ := h
 exact Kd.R_types ho hb ht
theorem IsS136.own_ne {w0 W : World} {g : Nat} {f0 : ByteArray} {f1 : Int} {f2 : Int} {α : Type} {d : Kd α} {e : Nat} {base : Nat} {ok : Nat → Prop} {v : Value} {xs : List α} (h : IsS136 w0 W g f0 f1 f2) (ho : d.R e W base ok v xs) (ht : e ≠ 136) : some g ≠ v.ownBlock := by
 obtain ⟨hb, hg⟩ := h
 exact Kd.R_ne ho hb ht
theorem IsS136.apartQ {w0 W : World} {g : Nat} {f0 : ByteArray} {f1 : Int} {f2 : Int} {α : Type} {d : Kd α} {e : Nat} {base : Nat} {ok : Nat → Prop} {v : Value} {xs : List α} (h : IsS136 w0 W g f0 f1 f2) (ho : d.Q e W base ok v xs) (ht : ∀ q, q ∈ e :: d.E → q ≠ 136) : d.Q e W base (fun k => ok k ∧ k ≠ g) v xs := by
 obtain ⟨hb, hg⟩ := h
 exact Kd.Q_types ho hb ht
theorem IsS136.own_neQ {w0 W : World} {g : Nat} {f0 : ByteArray} {f1 : Int} {f2 : Int} {α : Type} {d : Kd α} {e : Nat} {base : Nat} {ok : Nat → Prop} {v : Value} {xs : List α} (h : IsS136 w0 W g f0 f1 f2) (ho : d.Q e W base ok v xs) (ht : e ≠ 136) : some g ≠ v.ownBlock := by
 obtain ⟨hb, hg⟩ := h
 exact Kd.Q_ne ho hb ht
theorem IsS136.apartS {w0 W : World} {g : Nat} {f0 : ByteArray} {f1 : Int} {f2 : Int} {α : Type} {d : Kd α} {e : Nat} {base : Nat} {ok : Nat → Prop} {v : Value} {xs : List α} (h : IsS136 w0 W g f0 f1 f2) (ho : d.S e W base ok v xs) (ht : ∀ q, q ∈ e :: d.E → q ≠ 136) : d.S e W base (fun k => ok k ∧ k ≠ g) v xs := by
 obtain ⟨hb, hg⟩ := h
 exact Kd.S_types ho hb ht
theorem IsS136.own_neS {w0 W : World} {g : Nat} {f0 : ByteArray} {f1 : Int} {f2 : Int} {α : Type} {d : Kd α} {e : Nat} {base : Nat} {ok : Nat → Prop} {v : Value} {xs : List α} (h : IsS136 w0 W g f0 f1 f2) (ho : d.S e W base ok v xs) (ht : e ≠ 136) : some g ≠ v.ownBlock := by
 obtain ⟨hb, hg⟩ := h
 exact Kd.S_ne ho hb ht
theorem IsS136.lt {w0 W : World} {g : Nat} {f0 : ByteArray} {f1 : Int} {f2 : Int} (h : IsS136 w0 W g f0 f1 f2) : g < W.heap.size := by
 obtain ⟨hb, hg⟩ := h
 exact blk_lt hb
theorem IsS136.ge {w0 W : World} {g : Nat} {f0 : ByteArray} {f1 : Int} {f2 : Int} (h : IsS136 w0 W g f0 f1 f2) : w0.heap.size ≤ g := by
 obtain ⟨hb, hg⟩ := h
 exact hg
theorem IsS136.ne_blk {w0 W : World} {g : Nat} {f0 : ByteArray} {f1 : Int} {f2 : Int} {a : Nat} {cs : Array Value} {t : TypeId} {fr : Nat × Nat} (h : IsS136 w0 W g f0 f1 f2) (hb2 : W.heap[a]? = some (.cells cs t fr)) (ht : t ≠ 136) : g ≠ a := by
 obtain ⟨hb, hg⟩ := h
 rintro rfl
 rw [hb] at hb2
 injection hb2 with hb2
 injection hb2 with _ ht2
 exact ht ht2.symm
theorem IsS136.far {w0 W : World} {g : Nat} {f0 : ByteArray} {f1 : Int} {f2 : Int} {p : Addr} (h : IsS136 w0 W g f0 f1 f2) (hne : g ≠ p.block) (u : Value) : IsS136 w0 (W.setCell p u) g f0 f1 f2 := by
 obtain ⟨hb, hg⟩ := h
 exact ⟨blk_far hb hne u, hg⟩
theorem cellS136_0 {W : World} {g : Nat} {f0 : ByteArray} {f1 : Int} {f2 : Int} (h : W.heap[g]? = some (.cells #[.string f0, .int .i64 f1, .int .i64 f2] 136 (0, 0))) : W.cell? ⟨g, 0, none⟩ = some (.string f0) := (blk_cell h 0).trans rfl
theorem IsS136.set_0 {w0 W : World} {g : Nat} {f0 : ByteArray} {f1 : Int} {f2 : Int} (h : IsS136 w0 W g f0 f1 f2) (x : ByteArray) : IsS136 w0 (W.setCell ⟨g, 0, none⟩ (.string x)) g x f1 f2 := by
 obtain ⟨hb, hg⟩ := h
 exact ⟨by simpa using blk_set hb 0 (.string x), hg⟩
theorem cellS136_1 {W : World} {g : Nat} {f0 : ByteArray} {f1 : Int} {f2 : Int} (h : W.heap[g]? = some (.cells #[.string f0, .int .i64 f1, .int .i64 f2] 136 (0, 0))) : W.cell? ⟨g, 1, none⟩ = some (.int .i64 f1) := (blk_cell h 1).trans rfl
theorem IsS136.set_1 {w0 W : World} {g : Nat} {f0 : ByteArray} {f1 : Int} {f2 : Int} (h : IsS136 w0 W g f0 f1 f2) (x : Int) : IsS136 w0 (W.setCell ⟨g, 1, none⟩ (.int .i64 x)) g f0 x f2 := by
 obtain ⟨hb, hg⟩ := h
 exact ⟨by simpa using blk_set hb 1 (.int .i64 x), hg⟩
theorem cellS136_2 {W : World} {g : Nat} {f0 : ByteArray} {f1 : Int} {f2 : Int} (h : W.heap[g]? = some (.cells #[.string f0, .int .i64 f1, .int .i64 f2] 136 (0, 0))) : W.cell? ⟨g, 2, none⟩ = some (.int .i64 f2) := (blk_cell h 2).trans rfl
theorem IsS136.set_2 {w0 W : World} {g : Nat} {f0 : ByteArray} {f1 : Int} {f2 : Int} (h : IsS136 w0 W g f0 f1 f2) (x : Int) : IsS136 w0 (W.setCell ⟨g, 2, none⟩ (.int .i64 x)) g f0 f1 x := by
 obtain ⟨hb, hg⟩ := h
 exact ⟨by simpa using blk_set hb 2 (.int .i64 x), hg⟩
theorem IsS136.new (w0 W : World) (f0 : ByteArray) (f1 : Int) (f2 : Int) (hB : Below w0.heap.size w0 W) : IsS136 w0 (W.alloc (.cells #[.string f0, .int .i64 f1, .int .i64 f2] 136)) W.heap.size f0 f1 f2 := ⟨by simpa using heap_alloc_new W _, hB.size⟩

/-! ### field_NewReader: function 73 -/
def field_NewReader.f (a0 : ByteArray) : Option (ByteArray × Int × Int) := some (a0, 0, 0)
set_option maxHeartbeats 8000000 in
set_option maxRecDepth 100000 in
theorem field_NewReader.calls (a0 : ByteArray) (r1 : ByteArray) (r2 : Int) (r3 : Int) (w0 w : World) (hB : Below w0.heap.size w0 w) (h : field_NewReader.f a0 = some (r1, r2, r3)) :
  Calls Tryd.prog 73 #[.string a0] w fun e w' => ∃ g_ : Nat, e = .returned (.pointer (some ⟨g_, 0, none⟩)) ∧ IsS136 w0 w' g_ r1 r2 r3 ∧ Below w0.heap.size w0 w' ∧ Below w.heap.size w w' := by
 have hu136 := Tryd.underlying136
 have HBW := As (Below.refl w.heap.size w)
 have HW0 := As hB.size
 have HB := As hB
 clear hB
 have H : (some (a0, 0, 0)) = some (r1, r2, r3) := h
 clear h
 simp only [Option.some.injEq, Prod.mk.injEq] at H
 obtain ⟨rfl, rfl, rfl⟩ := H
 go_enter Tryd.func73, Tryd.ntmps73
 go_wp2_with (first | ((with_reducible refine gate_dst (N := 5) rfl ?_); refine box_event rfl (N := 5) rfl (cs := #[.string a0, .int .i64 0, .int .i64 0]) (t := 136) kG ?_; intro gb147 hg w2 hbox hb; replace HB := As (below_step (kB HB.out) hb); have BK147 := As (hbox); have GW147 := As (gS hg (below_size (kB HBW.out))); have GE147 := As ((Nat.le_trans HW0.out (by rw [hg]; exact (below_size (kB HBW.out)) : w.heap.size ≤ gb147) : w0.heap.size ≤ gb147)); replace HBW := As (below_step HBW.out hb); clear hb hbox hg))
 go_ret
 exact ⟨_, rfl, (show IsS136 w0 _ gb147 a0 0 0 from ⟨by exact kb BK147.out, GE147.out⟩), by exact kB1 HB.out GE147.out, by exact kB1 HBW.out GW147.out⟩

/-! ### field_number: function 106 -/
def field_number.l0 : Nat → Int → List Int → Int → Int → Option (Int)
 | 0, _, _, _, _ => none
 | k + 1, x3, x6, x7, x8 => if x8 < x7 then (if 0 ≤ x8 then (if x8 < (x6.length : Int) then (field_number.l0 k (Go.bits .or .i64 (wrap64 (x3 * 256)) (wrap64 (rd x6 x8))) x6 x7 (wrap64 (x8 + 1))) else (none)) else (none)) else (some x3)
def field_number.f (k : Nat) (l0 : List Int) : Option (Int) := field_number.l0 k 0 l0 (l0.length : Int) 0
theorem field_number.mono_l : ∀ k, (∀ y0 y1 y2 y3, LeO (field_number.l0 k y0 y1 y2 y3) (field_number.l0 (k + 1) y0 y1 y2 y3))
 | 0 => fun _ _ _ _ r h => by simp [field_number.l0] at h
 | k + 1 => by
  have ih0 := field_number.mono_l k
  intro y0 y1 y2 y3
  unfold field_number.l0
  repeat' first | with_reducible first | apply ih0 | apply LeO.refl | apply LeO.none | refine LeO.ite ?_ ?_ | refine LeO.bind ?_ (fun _ => ?_)
theorem field_number.mono : ∀ a0 k, LeO (field_number.f k a0) (field_number.f (k + 1) a0) := by
 intro a0 k
 have ih0 := field_number.mono_l k
 unfold field_number.f
 repeat' first | with_reducible first | apply ih0 | apply LeO.refl | apply LeO.none | refine LeO.ite ?_ ?_ | refine LeO.bind ?_ (fun _ => ?_)
set_option maxHeartbeats 8000000 in
set_option maxRecDepth 100000 in
theorem field_number.calls (k : Nat) (A0 : Option Addr) (c0 : Nat) (l0 : List Int) (r : Int) (w : World) (hr0 : Kd.C (Kd.int .u8) w A0 l0.length l0) (hc0 : l0.length ≤ c0) (h : field_number.f k l0 = some r) :
  Calls Tryd.prog 106 #[.slice A0 l0.length c0] w fun e w' => e = .returned (.int .i64 r) ∧ Drawn0 w w' := by
 have HR0 := As hr0
 have HC0 := As hc0
 clear hr0 hc0
 have H : (field_number.l0 k 0 l0 (l0.length : Int) 0) = some r := h
 clear h
 have H' := As H
 clear H
 go_enter Tryd.func106, Tryd.ntmps106
 go_wp2
 go_loopg [3, 8] k (fun kq v3 v8 w' => ∃ (x3_1 : Int) (x8_1 : Int), v3 = .int .i64 x3_1 ∧ v8 = .int .i64 x8_1 ∧ Aside0 (field_number.l0 kq x3_1 l0 (l0.length : Int) x8_1 = some r) ∧ Aside0 (kq ≤ k) ∧ Drawn0 w w')
 case atStart => exact ⟨(0), (0), kS, kS, H', ⟨Nat.le_refl _⟩, by repeat (first | exact Drawn0.refl _ | apply Drawn0.step)⟩
 clear H'
 obtain ⟨x3_1, x8_1, rfl, rfl, HA, HK1, ⟨m1, rfl⟩⟩ := hrel
 cases gk with
 | zero => exact absurd HA.out (by simp [field_number.l0])
 | succ k1 =>
  have H := HA.out
  clear HA
  simp only [field_number.l0] at H
  by_cases c2 : x8_1 < (l0.length : Int)
  ·rw [if_pos c2] at H
   have c2b0 : decide (x8_1 < (l0.length : Int)) = true := decide_eq_true c2
   clear c2
   replace H := iS H
   obtain ⟨c3, H⟩ := H
   have c3b0 := decide_eq_true c3
   clear c3
   replace H := iS H
   obtain ⟨c4, H⟩ := H
   have c4b0 := decide_eq_true c4
   clear c4
   have H' := As H
   clear H
   have p148 : 0 ≤ (x8_1 : Int) := of_decide_eq_true (by first | (with_reducible assumption) | assumption)
   have q148 : x8_1 < (l0.length : Int) := of_decide_eq_true (by first | (with_reducible assumption) | assumption)
   obtain ⟨ad148, e148, hx148_0⟩ := Kd.at_int HR0.out x8_1 p148 q148
   cases e148
   replace p148 := eq_true p148
   replace q148 := eq_true q148
   go_wp2
   go_roundg k1
   case measure => have := HK1.out; omega
   case rel => exact ⟨(Go.bits .or .i64 (wrap64 (x3_1 * 256)) (wrap64 (rd l0 x8_1))), (wrap64 (x8_1 + 1)), kS, kS, H', ⟨by have := HK1.out; omega⟩, by repeat (first | exact Drawn0.refl _ | apply Drawn0.step)⟩
  rw [if_neg c2] at H
  have c2b0 : decide (x8_1 < (l0.length : Int)) = false := decide_eq_false c2
  clear c2
  obtain rfl := Option.some.inj H
  go_wp2
  go_ret
  exact ⟨by first | rfl | (simp; done) | (simp [*]; done), by repeat (first | exact Drawn0.refl _ | apply Drawn0.step)⟩

/-! ### field_Reader_next: function 107 -/
def field_Reader_next.f (s0_0 : ByteArray) (s0_1 : Int) (s0_2 : Int) (a1 : Int) (a2 : Bool) : Option (ByteArray × ByteArray × Int × Int) := if s0_2 = 0 then (if a2 = true then (if a1 > (wrap64 ((s0_0.size : Int) - s0_1)) then (some ((⟨#[]⟩ : ByteArray), s0_0, s0_1, 1)) else (if 0 ≤ (wrap64 ((wrap64 (s0_1 + a1)) - a1)) then (if (wrap64 ((wrap64 (s0_1 + a1)) - a1)) ≤ (wrap64 (s0_1 + a1)) then (if (wrap64 (s0_1 + a1)) ≤ (s0_0.size : Int) then (some (s0_0.extract ((wrap64 ((wrap64 (s0_1 + a1)) - a1)) : Int).toNat ((wrap64 (s0_1 + a1)) : Int).toNat, s0_0, wrap64 (s0_1 + a1), s0_2)) else (none)) else (none)) else (none))) else (some ((⟨#[]⟩ : ByteArray), s0_0, s0_1, 4))) else (some ((⟨#[]⟩ : ByteArray), s0_0, s0_1, s0_2))
set_option maxHeartbeats 8000000 in
set_option maxRecDepth 100000 in
theorem field_Reader_next.calls (g : Nat) (s0_0 : ByteArray) (s0_1 : Int) (s0_2 : Int) (a1 : Int) (a2 : Bool) (r1 : ByteArray) (r2 : ByteArray) (r3 : Int) (r4 : Int) (w0 w : World) (hI : IsS136 w0 w g s0_0 s0_1 s0_2) (hB : Below w0.heap.size w0 w) (h : field_Reader_next.f s0_0 s0_1 s0_2 a1 a2 = some (r1, r2, r3, r4)) :
  Calls Tryd.prog 107 #[.pointer (some ⟨g, 0, none⟩), .int .i64 a1, .bool a2] w fun e w' => e = .returned (.string r1) ∧ IsS136 w0 w' g r2 r3 r4 ∧ Below w0.heap.size w0 w' ∧ KeepBut w w' g none := by
 have HI0 := As hI
 have HK := As (KeepBut.refl w g none)
 have HL := As hB.size
 clear hI
 have HW0 := As hB.size
 have HB := As hB
 clear hB
 have H : (if s0_2 = 0 then (if a2 = true then (if a1 > (wrap64 ((s0_0.size : Int) - s0_1)) then (some ((⟨#[]⟩ : ByteArray), s0_0, s0_1, 1)) else (if 0 ≤ (wrap64 ((wrap64 (s0_1 + a1)) - a1)) then (if (wrap64 ((wrap64 (s0_1 + a1)) - a1)) ≤ (wrap64 (s0_1 + a1)) then (if (wrap64 (s0_1 + a1)) ≤ (s0_0.size : Int) then (some (s0_0.extract ((wrap64 ((wrap64 (s0_1 + a1)) - a1)) : Int).toNat ((wrap64 (s0_1 + a1)) : Int).toNat, s0_0, wrap64 (s0_1 + a1), s0_2)) else (none)) else (none)) else (none))) else (some ((⟨#[]⟩ : ByteArray), s0_0, s0_1, 4))) else (some ((⟨#[]⟩ : ByteArray), s0_0, s0_1, s0_2))) = some (r1, r2, r3, r4) := h
 clear h
 by_cases c4 : s0_2 = 0
 ·rw [if_pos c4] at H
  have c4b0 : (s0_2 == 0) = true := beq_iff_eq.mpr c4
  have c4b1 : (s0_2 != 0) = false := bne_eq_false_iff_eq.mpr c4
  clear c4
  by_cases c5 : a2 = true
  ·subst c5
   rw [if_pos rfl] at H
   by_cases c6 : a1 > (wrap64 ((s0_0.size : Int) - s0_1))
   ·rw [if_pos c6] at H
    have c6b0 : decide ((wrap64 ((s0_0.size : Int) - s0_1)) < a1) = true := decide_eq_true c6
    clear c6
    simp only [Option.some.injEq, Prod.mk.injEq] at H
    obtain ⟨rfl, rfl, rfl, rfl⟩ := H
    obtain ⟨HGz7, hgz7⟩ := HI0.out
    have hcz7_0 := cellS136_0 HGz7
    have hcz7_1 := cellS136_1 HGz7
    have hcz7_2 := cellS136_2 HGz7
    have hfz7_0 := blk_frozen HGz7 0
    have hfz7_1 := blk_frozen HGz7 1
    have hfz7_2 := blk_frozen HGz7 2
    clear HGz7 hgz7
    go_enter Tryd.func107, Tryd.ntmps107
    go_wp2
    repeat (go_quiet (fail); try go_wp2)
    go_ret
    exact ⟨kE, by repeat (first | (with_reducible first | exact HI0.out | apply IsS136.alloc | apply IsS136.drewN | apply IsS136.drew | apply IsS136.set_0 | apply IsS136.set_1 | apply IsS136.set_2) | exact HI0.out), by exact kB1 HB.out (IsS136.ge HI0.out), by repeat (first | (with_reducible first | exact HK.out | apply KeepBut.set_ | apply keep_drewN | apply keep_drew | apply keep_alloc) | exact HK.out)⟩
   rw [if_neg c6] at H
   have c6b0 : decide ((wrap64 ((s0_0.size : Int) - s0_1)) < a1) = false := decide_eq_false c6
   clear c6
   obtain ⟨ji8, hji8⟩ : ∃ j_ : Int, (wrap64 ((wrap64 (s0_1 + a1)) - a1)) = j_ := ⟨_, rfl⟩
   replace H : (if 0 ≤ (ji8) then (if (ji8) ≤ (wrap64 (s0_1 + a1)) then (if (wrap64 (s0_1 + a1)) ≤ (s0_0.size : Int) then (some (s0_0.extract ((ji8) : Int).toNat ((wrap64 (s0_1 + a1)) : Int).toNat, s0_0, wrap64 (s0_1 + a1), s0_2)) else (none)) else (none)) else (none)) = some (r1, r2, r3, r4) := by first | (rw [hji8] at H; exact H) | (simp only [hji8] at H ⊢; exact H)
   have hji8w : (IntKind.i64.wrap ((wrap64 (s0_1 + a1)) - a1)) = ji8 := (i64_w _).trans hji8
   replace H := iS H
   obtain ⟨c9, H⟩ := H
   have c9b0 := eq_true c9
   have c9b1 := decide_eq_true c9
   clear c9
   replace H := iS H
   obtain ⟨c10, H⟩ := H
   have c10b0 := eq_true c10
   have c10b1 := decide_eq_true c10
   replace H := iS H
   obtain ⟨c11, H⟩ := H
   have c11b0 := eq_true c11
   have c11b1 := decide_eq_true c11
   simp only [Option.some.injEq, Prod.mk.injEq] at H
   obtain ⟨rfl, rfl, rfl, rfl⟩ := H
   obtain ⟨HGz12, hgz12⟩ := HI0.out
   have hcz12_0 := cellS136_0 HGz12
   have hcz12_1 := cellS136_1 HGz12
   have hcz12_2 := cellS136_2 HGz12
   have hfz12_0 := blk_frozen HGz12 0
   have hfz12_1 := blk_frozen HGz12 1
   have hfz12_2 := blk_frozen HGz12 2
   clear HGz12 hgz12
   go_enter Tryd.func107, Tryd.ntmps107
   go_wp2
   repeat (go_quiet (fail); try go_wp2)
   go_ret
   exact ⟨by first | rfl | (simp [errW_none, errW_some] <;> rfl) | (simp only [← hji8]; first | rfl | (simp [errW_none, errW_some] <;> rfl)) | (simp [*, errW_none, errW_some] <;> rfl), by repeat (first | (with_reducible first | exact HI0.out | apply IsS136.alloc | apply IsS136.drewN | apply IsS136.drew | apply IsS136.set_0 | apply IsS136.set_1 | apply IsS136.set_2) | exact HI0.out), by exact kB1 HB.out (IsS136.ge HI0.out), by repeat (first | (with_reducible first | exact HK.out | apply KeepBut.set_ | apply keep_drewN | apply keep_drew | apply keep_alloc) | exact HK.out)⟩
  replace c5 := Bool.eq_false_iff.mpr c5
  subst c5
  rw [if_neg (show ¬ (false = true) by decide)] at H
  simp only [Option.some.injEq, Prod.mk.injEq] at H
  obtain ⟨rfl, rfl, rfl, rfl⟩ := H
  obtain ⟨HGz13, hgz13⟩ := HI0.out
  have hcz13_0 := cellS136_0 HGz13
  have hcz13_1 := cellS136_1 HGz13
  have hcz13_2 := cellS136_2 HGz13
  have hfz13_0 := blk_frozen HGz13 0
  have hfz13_1 := blk_frozen HGz13 1
  have hfz13_2 := blk_frozen HGz13 2
  clear HGz13 hgz13
  go_enter Tryd.func107, Tryd.ntmps107
  go_wp2
  repeat (go_quiet (fail); try go_wp2)
  go_ret
  exact ⟨kE, by repeat (first | (with_reducible first | exact HI0.out | apply IsS136.alloc | apply IsS136.drewN | apply IsS136.drew | apply IsS136.set_0 | apply IsS136.set_1 | apply IsS136.set_2) | exact HI0.out), by exact kB1 HB.out (IsS136.ge HI0.out), by repeat (first | (with_reducible first | exact HK.out | apply KeepBut.set_ | apply keep_drewN | apply keep_drew | apply keep_alloc) | exact HK.out)⟩
 rw [if_neg c4] at H
 have c4b0 : (s0_2 == 0) = false := beq_eq_false_iff_ne.mpr c4
 have c4b1 : (s0_2 != 0) = true := bne_iff_ne.mpr c4
 simp only [Option.some.injEq, Prod.mk.injEq] at H
 obtain ⟨rfl, rfl, rfl, rfl⟩ := H
 obtain ⟨HGz14, hgz14⟩ := HI0.out
 have hcz14_0 := cellS136_0 HGz14
 have hcz14_1 := cellS136_1 HGz14
 have hcz14_2 := cellS136_2 HGz14
 have hfz14_0 := blk_frozen HGz14 0
 have hfz14_1 := blk_frozen HGz14 1
 have hfz14_2 := blk_frozen HGz14 2
 clear HGz14 hgz14
 go_enter Tryd.func107, Tryd.ntmps107
 go_wp2
 repeat (go_quiet (fail); try go_wp2)
 go_ret
 exact ⟨kE, by repeat (first | (with_reducible first | exact HI0.out | apply IsS136.alloc | apply IsS136.drewN | apply IsS136.drew | apply IsS136.set_0 | apply IsS136.set_1 | apply IsS136.set_2) | exact HI0.out), by exact kB1 HB.out (IsS136.ge HI0.out), by repeat (first | (with_reducible first | exact HK.out | apply KeepBut.set_ | apply keep_drewN | apply keep_drew | apply keep_alloc) | exact HK.out)⟩

/-! ### field_Reader_Int: function 74 -/
def field_Reader_Int.f (k : Nat) (s0_0 : ByteArray) (s0_1 : Int) (s0_2 : Int) (a1 : Int) : Option (Int × ByteArray × Int × Int) := (field_valid.f a1).bind fun t149 => ((field_Reader_next.f s0_0 s0_1 s0_2 a1 t149).bind fun bt150 => (if bt150.1.size ≤ 9223372036854775807 then ((field_number.f k (bytesOf bt150.1)).bind fun t157 => (some (t157, bt150.2.1, bt150.2.2.1, bt150.2.2.2))) else (none)))
theorem field_Reader_Int.mono : ∀ a0 a1 a2 a3 k, LeO (field_Reader_Int.f k a0 a1 a2 a3) (field_Reader_Int.f (k + 1) a0 a1 a2 a3) := by
 intro a0 a1 a2 a3 k
 unfold field_Reader_Int.f
 repeat' first | with_reducible first | apply field_number.mono | apply LeO.refl | apply LeO.none | refine LeO.ite ?_ ?_ | refine LeO.bind ?_ (fun _ => ?_)
set_option maxHeartbeats 8000000 in
set_option maxRecDepth 100000 in
theorem field_Reader_Int.calls (k : Nat) (g : Nat) (s0_0 : ByteArray) (s0_1 : Int) (s0_2 : Int) (a1 : Int) (r1 : Int) (r2 : ByteArray) (r3 : Int) (r4 : Int) (w0 w : World) (hI : IsS136 w0 w g s0_0 s0_1 s0_2) (hB : Below w0.heap.size w0 w) (h : field_Reader_Int.f k s0_0 s0_1 s0_2 a1 = some (r1, r2, r3, r4)) :
  Calls Tryd.prog 74 #[.pointer (some ⟨g, 0, none⟩), .int .i64 a1] w fun e w' => e = .returned (.int .i64 r1) ∧ IsS136 w0 w' g r2 r3 r4 ∧ Below w0.heap.size w0 w' ∧ KeepBut w w' g none := by
 have HI0 := As hI
 have HK := As (KeepBut.refl w g none)
 have HL := As hB.size
 clear hI
 have HW0 := As hB.size
 have HB := As hB
 clear hB
 have H : ((field_valid.f a1).bind fun t149 => ((field_Reader_next.f s0_0 s0_1 s0_2 a1 t149).bind fun bt150 => (if bt150.1.size ≤ 9223372036854775807 then ((field_number.f k (bytesOf bt150.1)).bind fun t157 => (some (t157, bt150.2.1, bt150.2.2.1, bt150.2.2.2))) else (none)))) = some (r1, r2, r3, r4) := h
 clear h
 replace H := bS H
 obtain ⟨t149, A3, H⟩ := H
 replace H := bS H
 obtain ⟨⟨t150, t151, t152, t153⟩, A4, H⟩ := H
 try dsimp -simprocs only at H
 replace H := iS H
 obtain ⟨c5, H⟩ := H
 have c5b0 := eq_true c5
 have c5b1 := decide_eq_true c5
 try have c5b2 := eq_false (Nat.not_lt.2 c5)
 clear c5
 obtain ⟨y154, hy154⟩ : ∃ y_ : List Int, y_ = (bytesOf t150) := ⟨_, rfl⟩
 replace H : ((field_number.f k y154).bind fun t157 => (some (t157, t151, t152, t153))) = some (r1, r2, r3, r4) := by first | (rw [hy154]; with_reducible exact H) | (have H2_ := (Option.bind_some _ _).symm.trans H; rw [hy154]; with_reducible exact H2_) | (have H2_ := (Option.bind_some _ _).symm.trans H; with_reducible exact H2_) | with_reducible exact H | (rw [hy154]; exact H) | exact H
 have Ny154 := As hy154
 clear hy154
 replace H := bS H
 obtain ⟨t157, A6, H⟩ := H
 simp only [Option.some.injEq, Prod.mk.injEq] at H
 obtain ⟨rfl, rfl, rfl, rfl⟩ := H
 go_enter Tryd.func74, Tryd.ntmps74
 go_wp2_with (first | ((with_reducible refine gate_callee (f := 54) rfl ?_); refine goesL_ (some 8) rfl rfl Tryd.func54 (by kernel_rfl) rfl #[.int .i64 a1] rfl kA ?_; (with_reducible refine (field_valid.calls a1 t149 _ A3.out).mono ?_); rintro e w' ⟨rfl, ⟨nd, rfl⟩⟩; refine ⟨_, rfl, ?_⟩) | ((with_reducible refine gate_callee (f := 107) rfl ?_); refine goesL_ (some 9) rfl rfl Tryd.func107 (by kernel_rfl) rfl #[.pointer (some ⟨g, 0, none⟩), .int .i64 a1, .bool t149] rfl kA ?_; (with_reducible refine (field_Reader_next.calls g s0_0 s0_1 s0_2 a1 t149 t150 t151 t152 t153 w0 _ ?side1 ?side2 A4.out).mono ?_); (case side1 => repeat (first | (with_reducible first | exact HI0.out | apply IsS136.alloc | apply IsS136.drewN | apply IsS136.drew | apply IsS136.set_0 | apply IsS136.set_1 | apply IsS136.set_2) | exact HI0.out)); (case side2 => exact kB1 HB.out (IsS136.ge HI0.out)); rintro e w7 ⟨rfl, hi, hb, hk⟩; refine ⟨_, rfl, ?_⟩; replace HK := As (KeepBut.trans (by repeat (first | (with_reducible first | exact HK.out | apply KeepBut.set_ | apply keep_drewN | apply keep_drew | apply keep_alloc) | exact HK.out)) hk (.inl rfl)); replace HB := As (hb); replace HI0 := As (hi); (try clear hb); (try clear hk); (try clear hi)) | ((with_reducible refine gate_dst (N := 10) rfl ?_); refine conv_event (e := 5) rfl (N := 10) rfl 9 47 _ rfl Tryd.underlying9 Tryd.underlying47 Tryd.underlying5 t150 rfl (of_decide_eq_true (by first | (with_reducible assumption) | assumption)) ?_; intro v155 w8 ho9 hb hg_ hnew_; clear hg_ hnew_; (first | rw [← Ny154.out] at ho9 | (simp only [Int.reduceToNat] at ho9; rw [← Ny154.out] at ho9)); have HO156 := As (Kd.V_lower (Kd.V_mono (ok' := fun k_ => k_ ≠ g) ho9 (fun k_ hk_ => (IsS136.fresh (by repeat (first | (with_reducible first | exact HI0.out | apply IsS136.alloc | apply IsS136.drewN | apply IsS136.drew | apply IsS136.set_0 | apply IsS136.set_1 | apply IsS136.set_2) | exact HI0.out)) k_ hk_))) (keep_size (w := w) (g := g) (row := none) (by repeat (first | (with_reducible first | exact HK.out | apply KeepBut.set_ | apply keep_drewN | apply keep_drew | apply keep_alloc) | exact HK.out)))); replace HK := As (KeepBut.trans (by repeat (first | (with_reducible first | exact HK.out | apply KeepBut.set_ | apply keep_drewN | apply keep_drew | apply keep_alloc) | exact HK.out)) (KeepBut.of_below hb g none) (.inl rfl)); replace HB := As (below_step (kB1 HB.out (IsS136.ge HI0.out)) hb); replace HI0 := As (IsS136.below (by repeat (first | (with_reducible first | exact HI0.out | apply IsS136.alloc | apply IsS136.drewN | apply IsS136.drew | apply IsS136.set_0 | apply IsS136.set_1 | apply IsS136.set_2) | exact HI0.out)) hb); clear hb ho9; obtain ⟨Ao10, co10, eo10⟩ := Kd.V_slice HO156.out; subst eo10) | ((with_reducible refine gate_callee (f := 106) rfl ?_); refine goesL_ (some 11) rfl rfl Tryd.func106 (by kernel_rfl) rfl #[.slice Ao10 y154.length co10] rfl kA ?_; (with_reducible refine (field_number.calls k _ _ y154 t157 _ ?side1 ?side2 A6.out).mono ?_); (case side1 => repeat (first | exact (Kd.V_reads' HO156.out).2.2 | (with_reducible refine Kd.C_alloc ?_ _) | (with_reducible refine Kd.C_drewN ?_ _) | (with_reducible refine Kd.C_drew ?_))); (case side2 => exact (Kd.V_reads' HO156.out).2.1); rintro e w' ⟨rfl, ⟨nd, rfl⟩⟩; refine ⟨_, rfl, ?_⟩))
 go_ret
 exact ⟨kE, by repeat (first | (with_reducible first | exact HI0.out | apply IsS136.alloc | apply IsS136.drewN | apply IsS136.drew | apply IsS136.set_0 | apply IsS136.set_1 | apply IsS136.set_2) | exact HI0.out), by exact kB1 HB.out (IsS136.ge HI0.out), by repeat (first | (with_reducible first | exact HK.out | apply KeepBut.set_ | apply keep_drewN | apply keep_drew | apply keep_alloc) | exact HK.out)⟩

/-! ### field_Reader_Take: function 76 -/
def field_Reader_Take.f (s0_0 : ByteArray) (s0_1 : Int) (s0_2 : Int) (a1 : Int) : Option (ByteArray × ByteArray × Int × Int) := (field_Reader_next.f s0_0 s0_1 s0_2 a1 (decide (a1 ≥ 0))).bind fun bt158 => (some (bt158.1, bt158.2.1, bt158.2.2.1, bt158.2.2.2))
set_option maxHeartbeats 8000000 in
set_option maxRecDepth 100000 in
theorem field_Reader_Take.calls (g : Nat) (s0_0 : ByteArray) (s0_1 : Int) (s0_2 : Int) (a1 : Int) (r1 : ByteArray) (r2 : ByteArray) (r3 : Int) (r4 : Int) (w0 w : World) (hI : IsS136 w0 w g s0_0 s0_1 s0_2) (hB : Below w0.heap.size w0 w) (h : field_Reader_Take.f s0_0 s0_1 s0_2 a1 = some (r1, r2, r3, r4)) :
  Calls Tryd.prog 76 #[.pointer (some ⟨g, 0, none⟩), .int .i64 a1] w fun e w' => e = .returned (.string r1) ∧ IsS136 w0 w' g r2 r3 r4 ∧ Below w0.heap.size w0 w' ∧ KeepBut w w' g none := by
 have HI0 := As hI
 have HK := As (KeepBut.refl w g none)
 have HL := As hB.size
 clear hI
 have HW0 := As hB.size
 have HB := As hB
 clear hB
 have H : ((field_Reader_next.f s0_0 s0_1 s0_2 a1 (decide (a1 ≥ 0))).bind fun bt158 => (some (bt158.1, bt158.2.1, bt158.2.2.1, bt158.2.2.2))) = some (r1, r2, r3, r4) := h
 clear h
 replace H := bS H
 obtain ⟨⟨t158, t159, t160, t161⟩, A3, H⟩ := H
 try dsimp -simprocs only at H
 simp only [Option.some.injEq, Prod.mk.injEq] at H
 obtain ⟨rfl, rfl, rfl, rfl⟩ := H
 go_enter Tryd.func76, Tryd.ntmps76
 go_wp2_with (first | ((with_reducible refine gate_callee (f := 107) rfl ?_); refine goesL_ (some 9) rfl rfl Tryd.func107 (by kernel_rfl) rfl #[.pointer (some ⟨g, 0, none⟩), .int .i64 a1, .bool (decide (a1 ≥ 0))] rfl kA ?_; (with_reducible refine (field_Reader_next.calls g s0_0 s0_1 s0_2 a1 (decide (a1 ≥ 0)) t158 t159 t160 t161 w0 _ ?side1 ?side2 A3.out).mono ?_); (case side1 => repeat (first | (with_reducible first | exact HI0.out | apply IsS136.alloc | apply IsS136.drewN | apply IsS136.drew | apply IsS136.set_0 | apply IsS136.set_1 | apply IsS136.set_2) | exact HI0.out)); (case side2 => exact kB1 HB.out (IsS136.ge HI0.out)); rintro e w4 ⟨rfl, hi, hb, hk⟩; refine ⟨_, rfl, ?_⟩; replace HK := As (KeepBut.trans (by repeat (first | (with_reducible first | exact HK.out | apply KeepBut.set_ | apply keep_drewN | apply keep_drew | apply keep_alloc) | exact HK.out)) hk (.inl rfl)); replace HB := As (hb); replace HI0 := As (hi); (try clear hb); (try clear hk); (try clear hi)))
 go_ret
 exact ⟨kE, by repeat (first | (with_reducible first | exact HI0.out | apply IsS136.alloc | apply IsS136.drewN | apply IsS136.drew | apply IsS136.set_0 | apply IsS136.set_1 | apply IsS136.set_2) | exact HI0.out), by exact kB1 HB.out (IsS136.ge HI0.out), by repeat (first | (with_reducible first | exact HK.out | apply KeepBut.set_ | apply keep_drewN | apply keep_drew | apply keep_alloc) | exact HK.out)⟩

/-! ### field_Reader_Err: function 85 -/
def field_Reader_Err.f (s0_0 : ByteArray) (s0_1 : Int) (s0_2 : Int) : Option (Int × ByteArray × Int × Int) := some (s0_2, s0_0, s0_1, s0_2)
set_option maxHeartbeats 8000000 in
set_option maxRecDepth 100000 in
theorem field_Reader_Err.calls (g : Nat) (s0_0 : ByteArray) (s0_1 : Int) (s0_2 : Int) (r1 : Int) (r2 : ByteArray) (r3 : Int) (r4 : Int) (w0 w : World) (hI : IsS136 w0 w g s0_0 s0_1 s0_2) (hB : Below w0.heap.size w0 w) (h : field_Reader_Err.f s0_0 s0_1 s0_2 = some (r1, r2, r3, r4)) :
  Calls Tryd.prog 85 #[.pointer (some ⟨g, 0, none⟩)] w fun e w' => e = .returned (.int .i64 r1) ∧ IsS136 w0 w' g r2 r3 r4 ∧ Below w0.heap.size w0 w' ∧ KeepBut w w' g none := by
 have HI0 := As hI
 have HK := As (KeepBut.refl w g none)
 have HL := As hB.size
 clear hI
 have HW0 := As hB.size
 have HB := As hB
 clear hB
 have H : (some (s0_2, s0_0, s0_1, s0_2)) = some (r1, r2, r3, r4) := h
 clear h
 simp only [Option.some.injEq, Prod.mk.injEq] at H
 obtain ⟨rfl, rfl, rfl, rfl⟩ := H
 obtain ⟨HGz2, hgz2⟩ := HI0.out
 have hcz2_0 := cellS136_0 HGz2
 have hcz2_1 := cellS136_1 HGz2
 have hcz2_2 := cellS136_2 HGz2
 have hfz2_0 := blk_frozen HGz2 0
 have hfz2_1 := blk_frozen HGz2 1
 have hfz2_2 := blk_frozen HGz2 2
 clear HGz2 hgz2
 go_enter Tryd.func85, Tryd.ntmps85
 go_wp2
 go_ret
 exact ⟨kE, by repeat (first | (with_reducible first | exact HI0.out | apply IsS136.alloc | apply IsS136.drewN | apply IsS136.drew | apply IsS136.set_0 | apply IsS136.set_1 | apply IsS136.set_2) | exact HI0.out), by exact kB1 HB.out (IsS136.ge HI0.out), by repeat (first | (with_reducible first | exact HK.out | apply KeepBut.set_ | apply keep_drewN | apply keep_drew | apply keep_alloc) | exact HK.out)⟩

/-! ### field_Reader_Left: function 78 -/
def field_Reader_Left.f (s0_0 : ByteArray) (s0_1 : Int) (s0_2 : Int) : Option (Int × ByteArray × Int × Int) := some (wrap64 ((s0_0.size : Int) - s0_1), s0_0, s0_1, s0_2)
set_option maxHeartbeats 8000000 in
set_option maxRecDepth 100000 in
theorem field_Reader_Left.calls (g : Nat) (s0_0 : ByteArray) (s0_1 : Int) (s0_2 : Int) (r1 : Int) (r2 : ByteArray) (r3 : Int) (r4 : Int) (w0 w : World) (hI : IsS136 w0 w g s0_0 s0_1 s0_2) (hB : Below w0.heap.size w0 w) (h : field_Reader_Left.f s0_0 s0_1 s0_2 = some (r1, r2, r3, r4)) :
  Calls Tryd.prog 78 #[.pointer (some ⟨g, 0, none⟩)] w fun e w' => e = .returned (.int .i64 r1) ∧ IsS136 w0 w' g r2 r3 r4 ∧ Below w0.heap.size w0 w' ∧ KeepBut w w' g none := by
 have HI0 := As hI
 have HK := As (KeepBut.refl w g none)
 have HL := As hB.size
 clear hI
 have HW0 := As hB.size
 have HB := As hB
 clear hB
 have H : (some (wrap64 ((s0_0.size : Int) - s0_1), s0_0, s0_1, s0_2)) = some (r1, r2, r3, r4) := h
 clear h
 simp only [Option.some.injEq, Prod.mk.injEq] at H
 obtain ⟨rfl, rfl, rfl, rfl⟩ := H
 obtain ⟨HGz2, hgz2⟩ := HI0.out
 have hcz2_0 := cellS136_0 HGz2
 have hcz2_1 := cellS136_1 HGz2
 have hcz2_2 := cellS136_2 HGz2
 have hfz2_0 := blk_frozen HGz2 0
 have hfz2_1 := blk_frozen HGz2 1
 have hfz2_2 := blk_frozen HGz2 2
 clear HGz2 hgz2
 go_enter Tryd.func78, Tryd.ntmps78
 go_wp2
 repeat (go_quiet (fail); try go_wp2)
 go_ret
 exact ⟨kE, by repeat (first | (with_reducible first | exact HI0.out | apply IsS136.alloc | apply IsS136.drewN | apply IsS136.drew | apply IsS136.set_0 | apply IsS136.set_1 | apply IsS136.set_2) | exact HI0.out), by exact kB1 HB.out (IsS136.ge HI0.out), by repeat (first | (with_reducible first | exact HK.out | apply KeepBut.set_ | apply keep_drewN | apply keep_drew | apply keep_alloc) | exact HK.out)⟩

/-! ### field_Reader_Rest: function 87 -/
def field_Reader_Rest.f (s0_0 : ByteArray) (s0_1 : Int) (s0_2 : Int) : Option (ByteArray × ByteArray × Int × Int) := (field_Reader_Left.f s0_0 s0_1 s0_2).bind fun bt162 => ((field_Reader_next.f bt162.2.1 bt162.2.2.1 bt162.2.2.2 bt162.1 true).bind fun bt166 => (some (bt166.1, bt166.2.1, bt166.2.2.1, bt166.2.2.2)))
set_option maxHeartbeats 8000000 in
set_option maxRecDepth 100000 in
theorem field_Reader_Rest.calls (g : Nat) (s0_0 : ByteArray) (s0_1 : Int) (s0_2 : Int) (r1 : ByteArray) (r2 : ByteArray) (r3 : Int) (r4 : Int) (w0 w : World) (hI : IsS136 w0 w g s0_0 s0_1 s0_2) (hB : Below w0.heap.size w0 w) (h : field_Reader_Rest.f s0_0 s0_1 s0_2 = some (r1, r2, r3, r4)) :
  Calls Tryd.prog 87 #[.pointer (some ⟨g, 0, none⟩)] w fun e w' => e = .returned (.string r1) ∧ IsS136 w0 w' g r2 r3 r4 ∧ Below w0.heap.size w0 w' ∧ KeepBut w w' g none := by
 have HI0 := As hI
 have HK := As (KeepBut.refl w g none)
 have HL := As hB.size
 clear hI
 have HW0 := As hB.size
 have HB := As hB
 clear hB
 have H : ((field_Reader_Left.f s0_0 s0_1 s0_2).bind fun bt162 => ((field_Reader_next.f bt162.2.1 bt162.2.2.1 bt162.2.2.2 bt162.1 true).bind fun bt166 => (some (bt166.1, bt166.2.1, bt166.2.2.1, bt166.2.2.2)))) = some (r1, r2, r3, r4) := h
 clear h
 replace H := bS H
 obtain ⟨⟨t162, t163, t164, t165⟩, A2, H⟩ := H
 try dsimp -simprocs only at H
 replace H := bS H
 obtain ⟨⟨t166, t167, t168, t169⟩, A3, H⟩ := H
 try dsimp -simprocs only at H
 simp only [Option.some.injEq, Prod.mk.injEq] at H
 obtain ⟨rfl, rfl, rfl, rfl⟩ := H
 go_enter Tryd.func87, Tryd.ntmps87
 go_wp2_with (first | ((with_reducible refine gate_callee (f := 78) rfl ?_); refine goesL_ (some 5) rfl rfl Tryd.func78 (by kernel_rfl) rfl #[.pointer (some ⟨g, 0, none⟩)] rfl kA ?_; (with_reducible refine (field_Reader_Left.calls g s0_0 s0_1 s0_2 t162 t163 t164 t165 w0 _ ?side1 ?side2 A2.out).mono ?_); (case side1 => repeat (first | (with_reducible first | exact HI0.out | apply IsS136.alloc | apply IsS136.drewN | apply IsS136.drew | apply IsS136.set_0 | apply IsS136.set_1 | apply IsS136.set_2) | exact HI0.out)); (case side2 => exact kB1 HB.out (IsS136.ge HI0.out)); rintro e w4 ⟨rfl, hi, hb, hk⟩; refine ⟨_, rfl, ?_⟩; replace HK := As (KeepBut.trans (by repeat (first | (with_reducible first | exact HK.out | apply KeepBut.set_ | apply keep_drewN | apply keep_drew | apply keep_alloc) | exact HK.out)) hk (.inl rfl)); replace HB := As (hb); replace HI0 := As (hi); (try clear hb); (try clear hk); (try clear hi)) | ((with_reducible refine gate_callee (f := 107) rfl ?_); refine goesL_ (some 6) rfl rfl Tryd.func107 (by kernel_rfl) rfl #[.pointer (some ⟨g, 0, none⟩), .int .i64 t162, .bool true] rfl kA ?_; (with_reducible refine (field_Reader_next.calls g t163 t164 t165 t162 true t166 t167 t168 t169 w0 _ ?side1 ?side2 A3.out).mono ?_); (case side1 => repeat (first | (with_reducible first | exact HI0.out | apply IsS136.alloc | apply IsS136.drewN | apply IsS136.drew | apply IsS136.set_0 | apply IsS136.set_1 | apply IsS136.set_2) | exact HI0.out)); (case side2 => exact kB1 HB.out (IsS136.ge HI0.out)); rintro e w5 ⟨rfl, hi, hb, hk⟩; refine ⟨_, rfl, ?_⟩; replace HK := As (KeepBut.trans (by repeat (first | (with_reducible first | exact HK.out | apply KeepBut.set_ | apply keep_drewN | apply keep_drew | apply keep_alloc) | exact HK.out)) hk (.inl rfl)); replace HB := As (hb); replace HI0 := As (hi); (try clear hb); (try clear hk); (try clear hi)))
 go_ret
 exact ⟨kE, by repeat (first | (with_reducible first | exact HI0.out | apply IsS136.alloc | apply IsS136.drewN | apply IsS136.drew | apply IsS136.set_0 | apply IsS136.set_1 | apply IsS136.set_2) | exact HI0.out), by exact kB1 HB.out (IsS136.ge HI0.out), by repeat (first | (with_reducible first | exact HK.out | apply KeepBut.set_ | apply keep_drewN | apply keep_drew | apply keep_alloc) | exact HK.out)⟩

/-! ### tunnel_gre: function 81 -/
mutual
def tunnel_gre.j0 : Nat → Int → Int → Bool → Bool → Int → Int → Bool → Int → Int → Int → Int → ByteArray → ByteArray → Int → Int → Option (Int × ByteArray × Int)
 | 0, _, _, _, _, _, _, _, _, _, _, _, _, _, _, _ => none
 | k + 1, x6, x7, x31, b0, b1, b2, b3, b4, b5, b6, b7, b8, x175000, x175001, x175002 => if x31 = true then (some (0, (⟨#[]⟩ : ByteArray), 2)) else ((some (([32768, 8192, 4096] : List Int) : List Int)).bind fun y188 => (tunnel_gre.l0 k x6 x7 y188 (y188.length : Int) 0 b0 b1 b2 b3 b4 b5 b6 b7 b8 x175000 x175001 x175002))
def tunnel_gre.l0 : Nat → Int → Int → List Int → Int → Int → Bool → Int → Int → Bool → Int → Int → Int → Int → ByteArray → ByteArray → Int → Int → Option (Int × ByteArray × Int)
 | 0, _, _, _, _, _, _, _, _, _, _, _, _, _, _, _, _, _ => none
 | k + 1, x6, x7, x32, x33, x34, b0, b1, b2, b3, b4, b5, b6, b7, b8, x175000, x175001, x175002 => if x34 < x33 then (if 0 ≤ x34 then (if x34 < (x32.length : Int) then (if (Go.bits .and .i64 x6 (rd x32 x34)) = 0 then (tunnel_gre.l0 k x6 x7 x32 x33 (wrap64 (x34 + 1)) b0 b1 b2 b3 b4 b5 b6 b7 b8 x175000 x175001 x175002) else ((field_Reader_Take.f x175000 x175001 x175002 4).bind fun bt192 => (tunnel_gre.l0 k x6 x7 x32 x33 (wrap64 (x34 + 1)) b0 b1 b2 b3 b4 b5 b6 b7 b8 bt192.2.1 bt192.2.2.1 bt192.2.2.2))) else (none)) else (none)) else ((field_Reader_Err.f x175000 x175001 x175002).bind fun bt196 => (if bt196.1 = 0 then (if (Go.bits .and .i64 x6 32768) = 0 then ((field_Reader_Rest.f bt196.2.1 bt196.2.2.1 bt196.2.2.2).bind fun bt200 => (some (x7, bt200.1, 0))) else ((checksum_Sum.f k b8).bind fun t204 => (if t204 = 0 then ((field_Reader_Rest.f bt196.2.1 bt196.2.2.1 bt196.2.2.2).bind fun bt205 => (some (x7, bt205.1, 0))) else (some (0, (⟨#[]⟩ : ByteArray), 8))))) else (some (0, (⟨#[]⟩ : ByteArray), bt196.1))))
end
def tunnel_gre.f (k : Nat) (d0 : Bool) (d1 : Int) (d2 : Int) (d3 : Bool) (d4 : Int) (d5 : Int) (d6 : Int) (d7 : Int) (d8 : ByteArray) : Option (Int × ByteArray × Int) := (field_NewReader.f d8).bind fun bt171 => ((field_Reader_Int.f k bt171.1 bt171.2.1 bt171.2.2 2).bind fun bt175 => ((field_Reader_Int.f k bt175.2.1 bt175.2.2.1 bt175.2.2.2 2).bind fun bt179 => ((tunnel_kindOf.f bt179.1).bind fun t183 => ((field_Reader_Err.f bt179.2.1 bt179.2.2.1 bt179.2.2.2).bind fun bt184 => (if bt184.1 = 0 then (if (Go.bits .andNot .i64 bt175.1 45056) = 0 then (tunnel_gre.j0 k bt175.1 t183 (t183 == 0) d0 d1 d2 d3 d4 d5 d6 d7 d8 bt184.2.1 bt184.2.2.1 bt184.2.2.2) else (tunnel_gre.j0 k bt175.1 t183 true d0 d1 d2 d3 d4 d5 d6 d7 d8 bt184.2.1 bt184.2.2.1 bt184.2.2.2)) else (some (0, (⟨#[]⟩ : ByteArray), bt184.1)))))))
theorem tunnel_gre.mono_l : ∀ k, (∀ y0 y1 y2 y3 y4 y5 y6 y7 y8 y9 y10 y11 y12 y13 y14, LeO (tunnel_gre.j0 k y0 y1 y2 y3 y4 y5 y6 y7 y8 y9 y10 y11 y12 y13 y14) (tunnel_gre.j0 (k + 1) y0 y1 y2 y3 y4 y5 y6 y7 y8 y9 y10 y11 y12 y13 y14)) ∧ (∀ y0 y1 y2 y3 y4 y5 y6 y7 y8 y9 y10 y11 y12 y13 y14 y15 y16, LeO (tunnel_gre.l0 k y0 y1 y2 y3 y4 y5 y6 y7 y8 y9 y10 y11 y12 y13 y14 y15 y16) (tunnel_gre.l0 (k + 1) y0 y1 y2 y3 y4 y5 y6 y7 y8 y9 y10 y11 y12 y13 y14 y15 y16))
 | 0 => ⟨fun _ _ _ _ _ _ _ _ _ _ _ _ _ _ _ r h => by simp [tunnel_gre.j0] at h, fun _ _ _ _ _ _ _ _ _ _ _ _ _ _ _ _ _ r h => by simp [tunnel_gre.l0] at h⟩
 | k + 1 => by
  obtain ⟨ih0, ih1⟩ := tunnel_gre.mono_l k
  refine ⟨?_, ?_⟩
  ·intro y0 y1 y2 y3 y4 y5 y6 y7 y8 y9 y10 y11 y12 y13 y14
   unfold tunnel_gre.j0
   repeat' first | with_reducible first | apply ih0 | apply ih1 | apply checksum_Sum.mono | apply field_Reader_Int.mono | apply LeO.refl | apply LeO.none | refine LeO.ite ?_ ?_ | refine LeO.bind ?_ (fun _ => ?_)
  intro y0 y1 y2 y3 y4 y5 y6 y7 y8 y9 y10 y11 y12 y13 y14 y15 y16
  unfold tunnel_gre.l0
  repeat' first | with_reducible first | apply ih0 | apply ih1 | apply checksum_Sum.mono | apply field_Reader_Int.mono | apply LeO.refl | apply LeO.none | refine LeO.ite ?_ ?_ | refine LeO.bind ?_ (fun _ => ?_)
theorem tunnel_gre.mono : ∀ a0 a1 a2 a3 a4 a5 a6 a7 a8 k, LeO (tunnel_gre.f k a0 a1 a2 a3 a4 a5 a6 a7 a8) (tunnel_gre.f (k + 1) a0 a1 a2 a3 a4 a5 a6 a7 a8) := by
 intro a0 a1 a2 a3 a4 a5 a6 a7 a8 k
 obtain ⟨ih0, ih1⟩ := tunnel_gre.mono_l k
 unfold tunnel_gre.f
 repeat' first | with_reducible first | apply ih0 | apply ih1 | apply checksum_Sum.mono | apply field_Reader_Int.mono | apply LeO.refl | apply LeO.none | refine LeO.ite ?_ ?_ | refine LeO.bind ?_ (fun _ => ?_)
set_option maxHeartbeats 8000000 in
set_option maxRecDepth 100000 in
theorem tunnel_gre.calls (k : Nat) (d0 : Bool) (d1 : Int) (d2 : Int) (d3 : Bool) (d4 : Int) (d5 : Int) (d6 : Int) (d7 : Int) (d8 : ByteArray) (r1 : Int) (r2 : ByteArray) (r3 : Int) (w : World) (h : tunnel_gre.f k d0 d1 d2 d3 d4 d5 d6 d7 d8 = some (r1, r2, r3)) :
  Calls Tryd.prog 81 #[.agg #[.bool d0, .int .u64 d1, .int .u64 d2, .bool d3, .int .u64 d4, .int .u64 d5, .int .i64 d6, .int .i64 d7, .string d8]] w fun e w' => e = .returned (.tuple #[.int .i64 r1, .string r2, .int .i64 r3]) ∧ Below w.heap.size w w' := by
 have hu30 := Tryd.underlying30
 have HB := As (Below.refl w.heap.size w)
 have H : ((field_NewReader.f d8).bind fun bt171 => ((field_Reader_Int.f k bt171.1 bt171.2.1 bt171.2.2 2).bind fun bt175 => ((field_Reader_Int.f k bt175.2.1 bt175.2.2.1 bt175.2.2.2 2).bind fun bt179 => ((tunnel_kindOf.f bt179.1).bind fun t183 => ((field_Reader_Err.f bt179.2.1 bt179.2.2.1 bt179.2.2.2).bind fun bt184 => (if bt184.1 = 0 then (if (Go.bits .andNot .i64 bt175.1 45056) = 0 then (tunnel_gre.j0 k bt175.1 t183 (t183 == 0) d0 d1 d2 d3 d4 d5 d6 d7 d8 bt184.2.1 bt184.2.2.1 bt184.2.2.2) else (tunnel_gre.j0 k bt175.1 t183 true d0 d1 d2 d3 d4 d5 d6 d7 d8 bt184.2.1 bt184.2.2.1 bt184.2.2.2)) else (some (0, (⟨#[]⟩ : ByteArray), bt184.1)))))))) = some (r1, r2, r3) := h
 clear h
 replace H := bS H
 obtain ⟨⟨t171, t172, t173⟩, A2, H⟩ := H
 try dsimp -simprocs only at H
 replace H := bS H
 obtain ⟨⟨t175, t176, t177, t178⟩, A3, H⟩ := H
 try dsimp -simprocs only at H
 replace H := bS H
 obtain ⟨⟨t179, t180, t181, t182⟩, A4, H⟩ := H
 try dsimp -simprocs only at H
 replace H := bS H
 obtain ⟨t183, A5, H⟩ := H
 replace H := bS H
 obtain ⟨⟨t184, t185, t186, t187⟩, A6, H⟩ := H
 try dsimp -simprocs only at H
 by_cases c7 : t184 = 0
 ·rw [if_pos c7] at H
  have c7b0 : (t184 == 0) = true := beq_iff_eq.mpr c7
  have c7b1 : (t184 != 0) = false := bne_eq_false_iff_eq.mpr c7
  clear c7
  have HC8 := As H
  clear H
  go_enter Tryd.func81, Tryd.ntmps81
  go_upto_region 7 with (first | ((with_reducible refine gate_dst (N := 1) rfl ?_); refine box_event rfl (N := 1) rfl (cs := #[.bool d0, .int .u64 d1, .int .u64 d2, .bool d3, .int .u64 d4, .int .u64 d5, .int .i64 d6, .int .i64 d7, .string d8]) (t := 30) kG ?_; intro gb170 hg w9 hbox hb; have BK170 := As (hbox); have GW170 := As (gS hg (below_size (kB HB.out))); have GE170 := As (gS hg (below_size (kB HB.out))); replace HB := As (below_step (kB HB.out) hb); clear hb hbox hg; have hcz10_0 := cells_9 BK170.out; have hfz10_0 := fun j_ => blk_frozen BK170.out j_) | ((with_reducible refine gate_callee (f := 73) rfl ?_); refine goesL_ (some 14) rfl rfl Tryd.func73 (by kernel_rfl) rfl #[.string d8] rfl kA ?_; (with_reducible refine (field_NewReader.calls d8 t171 t172 t173 w _ ?side1 A2.out).mono ?_); (case side1 => exact kB1 HB.out GE170.out); rintro e w11 ⟨g174, rfl, hi, hb, hb2⟩; refine ⟨_, rfl, ?_⟩; replace HB := As (hb); have HI174 := As (hi); have NB174_170 := As (IsS136.ne_blk hi (blk_below (kb BK170.out) hb2) (by decide)); have NB170_174 := As (Ne.symm (IsS136.ne_blk hi (blk_below (kb BK170.out) hb2) (by decide))); replace BK170 := As (blk_below (kb BK170.out) hb2); (try clear hb); (try clear hb2); (try clear hi)) | ((with_reducible refine gate_callee (f := 74) rfl ?_); refine goesL_ (some 16) rfl rfl Tryd.func74 (by kernel_rfl) rfl #[.pointer (some ⟨g174, 0, none⟩), .int .i64 2] rfl kA ?_; (with_reducible refine (field_Reader_Int.calls k g174 t171 t172 t173 2 t175 t176 t177 t178 w _ ?side1 ?side2 A3.out).mono ?_); (case side1 => repeat (first | (with_reducible first | exact HI174.out | apply IsS136.alloc | apply IsS136.drewN | apply IsS136.drew | apply IsS136.set_0 | apply IsS136.set_1 | apply IsS136.set_2 | refine IsS136.far ?_ NB174_170.out _) | exact HI174.out)); (case side2 => exact kB2 HB.out (IsS136.ge HI174.out) GE170.out); rintro e w12 ⟨rfl, hi, hb, hk⟩; refine ⟨_, rfl, ?_⟩; replace BK170 := As (KeepBut.blk hk (kb BK170.out) NB170_174.out (by simp)); replace HB := As (hb); replace HI174 := As (hi); (try clear hb); (try clear hk); (try clear hi)) | ((with_reducible refine gate_callee (f := 74) rfl ?_); refine goesL_ (some 18) rfl rfl Tryd.func74 (by kernel_rfl) rfl #[.pointer (some ⟨g174, 0, none⟩), .int .i64 2] rfl kA ?_; (with_reducible refine (field_Reader_Int.calls k g174 t176 t177 t178 2 t179 t180 t181 t182 w _ ?side1 ?side2 A4.out).mono ?_); (case side1 => repeat (first | (with_reducible first | exact HI174.out | apply IsS136.alloc | apply IsS136.drewN | apply IsS136.drew | apply IsS136.set_0 | apply IsS136.set_1 | apply IsS136.set_2 | refine IsS136.far ?_ NB174_170.out _) | exact HI174.out)); (case side2 => exact kB2 HB.out (IsS136.ge HI174.out) GE170.out); rintro e w13 ⟨rfl, hi, hb, hk⟩; refine ⟨_, rfl, ?_⟩; replace BK170 := As (KeepBut.blk hk (kb BK170.out) NB170_174.out (by simp)); replace HB := As (hb); replace HI174 := As (hi); (try clear hb); (try clear hk); (try clear hi)) | ((with_reducible refine gate_callee (f := 48) rfl ?_); refine goesL_ (some 19) rfl rfl Tryd.func48 (by kernel_rfl) rfl #[.int .i64 t179] rfl kA ?_; (with_reducible refine (tunnel_kindOf.calls t179 t183 _ A5.out).mono ?_); rintro e w' ⟨rfl, ⟨nd, rfl⟩⟩; refine ⟨_, rfl, ?_⟩) | ((with_reducible refine gate_callee (f := 85) rfl ?_); refine goesL_ (some 21) rfl rfl Tryd.func85 (by kernel_rfl) rfl #[.pointer (some ⟨g174, 0, none⟩)] rfl kA ?_; (with_reducible refine (field_Reader_Err.calls g174 t180 t181 t182 t184 t185 t186 t187 w _ ?side1 ?side2 A6.out).mono ?_); (case side1 => repeat (first | (with_reducible first | exact HI174.out | apply IsS136.alloc | apply IsS136.drewN | apply IsS136.drew | apply IsS136.set_0 | apply IsS136.set_1 | apply IsS136.set_2 | refine IsS136.far ?_ NB174_170.out _) | exact HI174.out)); (case side2 => exact kB2 HB.out (IsS136.ge HI174.out) GE170.out); rintro e w14 ⟨rfl, hi, hb, hk⟩; refine ⟨_, rfl, ?_⟩; replace BK170 := As (KeepBut.blk hk (kb BK170.out) NB170_174.out (by simp)); replace HB := As (hb); replace HI174 := As (hi); (try clear hb); (try clear hk); (try clear hi)))
  (try simp only [Act.put, sA, sZ, sS])
  go_cut [31] (fun v31 wc => ∃ (kq : Nat) (x31_7 : Bool), v31 = .bool x31_7 ∧ Aside0 (tunnel_gre.j0 kq t175 t183 x31_7 d0 d1 d2 d3 d4 d5 d6 d7 d8 t185 t186 t187 = some (r1, r2, r3)) ∧ Aside0 (kq ≤ k) ∧ Aside0 (wc.heap[gb170]? = some (.cells #[.bool d0, .int .u64 d1, .int .u64 d2, .bool d3, .int .u64 d4, .int .u64 d5, .int .i64 d6, .int .i64 d7, .string d8] 30 (0, 0))) ∧ Aside0 (IsS136 w wc g174 t185 t186 t187) ∧ Aside0 (Below w.heap.size w wc))
  case first =>
   have H := HC8.out
   clear HC8
   by_cases c15 : (Go.bits .andNot .i64 t175 45056) = 0
   ·rw [if_pos c15] at H
    have c15b0 : ((Go.bits .andNot .i64 t175 45056) == 0) = true := beq_iff_eq.mpr c15
    have c15b1 : ((Go.bits .andNot .i64 t175 45056) != 0) = false := bne_eq_false_iff_eq.mpr c15
    clear c15
    (first | rw [c15b0] | (simp only [i64_w, i32_w]; rw [c15b0]) | skip)
    have H' := As H
    clear H
    go_wp2
    go_meet
    case rel => exact ⟨_, ((t183 == 0)), kS, H', ⟨by first | omega | exact Nat.le_refl _⟩, ⟨kb BK170.out⟩, ⟨by repeat (first | (with_reducible first | exact HI174.out | apply IsS136.alloc | apply IsS136.drewN | apply IsS136.drew | apply IsS136.set_0 | apply IsS136.set_1 | apply IsS136.set_2 | refine IsS136.far ?_ NB174_170.out _) | exact HI174.out)⟩, ⟨kB2 HB.out (IsS136.ge HI174.out) GE170.out⟩⟩
   rw [if_neg c15] at H
   have c15b0 : ((Go.bits .andNot .i64 t175 45056) == 0) = false := beq_eq_false_iff_ne.mpr c15
   have c15b1 : ((Go.bits .andNot .i64 t175 45056) != 0) = true := bne_iff_ne.mpr c15
   (first | rw [c15b0] | (simp only [i64_w, i32_w]; rw [c15b0]) | skip)
   have H' := As H
   clear H
   go_wp2
   go_meet
   case rel => exact ⟨_, (true), kS, H', ⟨by first | omega | exact Nat.le_refl _⟩, ⟨kb BK170.out⟩, ⟨by repeat (first | (with_reducible first | exact HI174.out | apply IsS136.alloc | apply IsS136.drewN | apply IsS136.drew | apply IsS136.set_0 | apply IsS136.set_1 | apply IsS136.set_2 | refine IsS136.far ?_ NB174_170.out _) | exact HI174.out)⟩, ⟨kB2 HB.out (IsS136.ge HI174.out) GE170.out⟩⟩
  clear HC8
  try clear c7
  try clear c7b0
  try clear c7b1
  try clear hcz10_0
  try clear hfz10_0
  obtain ⟨kq, x31_7, rfl, HA, HJ7, BK170, HI174, HB⟩ := hcut
  cases kq with
  | zero => exact absurd HA.out (by simp [tunnel_gre.j0])
  | succ kj7 =>
   have H := HA.out
   clear HA
   simp only [tunnel_gre.j0] at H
   by_cases c16 : x31_7 = true
   ·subst c16
    rw [if_pos rfl] at H
    simp only [Option.some.injEq, Prod.mk.injEq] at H
    obtain ⟨rfl, rfl, rfl⟩ := H
    go_wp2
    go_ret3
    exact ⟨kE, by exact kB2 HB.out (IsS136.ge HI174.out) GE170.out⟩
   replace c16 := Bool.eq_false_iff.mpr c16
   subst c16
   rw [if_neg (show ¬ (false = true) by decide)] at H
   replace H := yS H
   obtain ⟨y188, Ny188, H⟩ := H
   have H' := As H
   clear H
   go_wp2_with (first | ((with_reducible refine gate_dst (N := 32) rfl ?_); refine Kd.R_lit (Kd.int .i64) _ 3 rfl (N := 32) rfl (xs := ([32768, 8192, 4096] : List Int)) (inner := [.int .i64 32768, .int .i64 8192, .int .i64 4096]) (ok := fun _ => True) (okp := fun _ => True) kG ?hp (fun _ hk => hk) trivial (Below.refl _ _) (Nat.le_refl _) (by simp) ?_; (case hp => exact (Reps.one (show Kd.M (Kd.int .i64) _ _ _ 32768 [.int .i64 32768] from rfl) (Reps.one (show Kd.M (Kd.int .i64) _ _ _ 8192 [.int .i64 8192] from rfl) (Reps.one (show Kd.M (Kd.int .i64) _ _ _ 4096 [.int .i64 4096] from rfl) (Reps.none _ _))))); intro v189 w17 ho18 hb hg_ hnew_; clear hg_ hnew_; (first | rw [← Ny188.out] at ho18 | (simp only [Int.reduceToNat] at ho18; rw [← Ny188.out] at ho18)); have HO190 := As (Kd.R_lower ho18 (below_size (kB2 HB.out (IsS136.ge HI174.out) GE170.out))); replace BK170 := As (blk_below (kb BK170.out) hb); replace HB := As (below_step (kB2 HB.out (IsS136.ge HI174.out) GE170.out) hb); replace HI174 := As (IsS136.below (by repeat (first | (with_reducible first | exact HI174.out | apply IsS136.alloc | apply IsS136.drewN | apply IsS136.drew | apply IsS136.set_0 | apply IsS136.set_1 | apply IsS136.set_2 | refine IsS136.far ?_ NB174_170.out _) | exact HI174.out)) hb); clear hb ho18; obtain ⟨Ao19, co19, eo19⟩ := Kd.R_slice HO190.out; subst eo19))
   go_loopg [34] kj7 (fun kq v34 w' => ∃ (x34_2 : Int) (x175000_2 : ByteArray) (x175001_2 : Int) (x175002_2 : Int), v34 = .int .i64 x34_2 ∧ Aside0 (tunnel_gre.l0 kq t175 t183 y188 (y188.length : Int) x34_2 d0 d1 d2 d3 d4 d5 d6 d7 d8 x175000_2 x175001_2 x175002_2 = some (r1, r2, r3)) ∧ Aside0 (kq ≤ kj7) ∧ Aside0 (Kd.R (Kd.int .i64) 3 w' w.heap.size (fun _ => True) (.slice Ao19 y188.length co19) y188) ∧ Aside0 (w'.heap[gb170]? = some (.cells #[.bool d0, .int .u64 d1, .int .u64 d2, .bool d3, .int .u64 d4, .int .u64 d5, .int .i64 d6, .int .i64 d7, .string d8] 30 (0, 0))) ∧ Aside0 (IsS136 w w' g174 x175000_2 x175001_2 x175002_2) ∧ Aside0 (Below w.heap.size w w'))
   case atStart => exact ⟨(0), (t185), (t186), (t187), kS, H', ⟨Nat.le_refl _⟩, ⟨by (with_reducible repeat (first | apply Kd.R_alloc | apply Kd.R_drewN | apply Kd.R_drew)); exact HO190.out⟩, ⟨kb BK170.out⟩, ⟨by repeat (first | (with_reducible first | exact HI174.out | apply IsS136.alloc | apply IsS136.drewN | apply IsS136.drew | apply IsS136.set_0 | apply IsS136.set_1 | apply IsS136.set_2 | refine IsS136.far ?_ NB174_170.out _) | exact HI174.out)⟩, ⟨kB2 HB.out (IsS136.ge HI174.out) GE170.out⟩⟩
   clear H'
   try clear c16
   obtain ⟨x34_2, x175000_2, x175001_2, x175002_2, rfl, HA, HK2, HO_32, BK170, HI174, HB⟩ := hrel
   cases gk with
   | zero => exact absurd HA.out (by simp [tunnel_gre.l0])
   | succ k2 =>
    have H := HA.out
    clear HA
    simp only [tunnel_gre.l0] at H
    by_cases c20 : x34_2 < (y188.length : Int)
    ·rw [if_pos c20] at H
     have c20b0 : decide (x34_2 < (y188.length : Int)) = true := decide_eq_true c20
     clear c20
     replace H := iS H
     obtain ⟨c21, H⟩ := H
     have c21b0 := decide_eq_true c21
     clear c21
     replace H := iS H
     obtain ⟨c22, H⟩ := H
     have c22b0 := decide_eq_true c22
     clear c22
     by_cases c23 : (Go.bits .and .i64 t175 (rd y188 x34_2)) = 0
     ·rw [if_pos c23] at H
      have c23b0 : ((Go.bits .and .i64 t175 (rd y188 x34_2)) == 0) = true := beq_iff_eq.mpr c23
      have c23b1 : ((Go.bits .and .i64 t175 (rd y188 x34_2)) != 0) = false := bne_eq_false_iff_eq.mpr c23
      clear c23
      have H' := As H
      clear H
      have p191 : 0 ≤ (x34_2 : Int) := of_decide_eq_true (by first | (with_reducible assumption) | assumption)
      have q191 : x34_2 < (y188.length : Int) := of_decide_eq_true (by first | (with_reducible assumption) | assumption)
      obtain ⟨ad191, e191, hx191_0⟩ := Kd.at_int (Kd.R_reads' HO_32.out).2.2 x34_2 p191 q191
      cases e191
      replace p191 := eq_true p191
      replace q191 := eq_true q191
      go_wp2
      go_roundg k2
      case measure => have := HJ7.out; have := HK2.out; omega
      case rel => exact ⟨(wrap64 (x34_2 + 1)), (x175000_2), (x175001_2), (x175002_2), kS, H', ⟨by have := HJ7.out; have := HK2.out; omega⟩, ⟨by (with_reducible repeat (first | apply Kd.R_alloc | apply Kd.R_drewN | apply Kd.R_drew)); exact HO_32.out⟩, ⟨kb BK170.out⟩, ⟨by repeat (first | (with_reducible first | exact HI174.out | apply IsS136.alloc | apply IsS136.drewN | apply IsS136.drew | apply IsS136.set_0 | apply IsS136.set_1 | apply IsS136.set_2 | refine IsS136.far ?_ NB174_170.out _) | exact HI174.out)⟩, ⟨kB2 HB.out (IsS136.ge HI174.out) GE170.out⟩⟩
     rw [if_neg c23] at H
     have c23b0 : ((Go.bits .and .i64 t175 (rd y188 x34_2)) == 0) = false := beq_eq_false_iff_ne.mpr c23
     have c23b1 : ((Go.bits .and .i64 t175 (rd y188 x34_2)) != 0) = true := bne_iff_ne.mpr c23
     replace H := bS H
     obtain ⟨⟨t192, t193, t194, t195⟩, A24, H⟩ := H
     try dsimp -simprocs only at H
     have H' := As H
     clear H
     have p191 : 0 ≤ (x34_2 : Int) := of_decide_eq_true (by first | (with_reducible assumption) | assumption)
     have q191 : x34_2 < (y188.length : Int) := of_decide_eq_true (by first | (with_reducible assumption) | assumption)
     obtain ⟨ad191, e191, hx191_0⟩ := Kd.at_int (Kd.R_reads' HO_32.out).2.2 x34_2 p191 q191
     cases e191
     replace p191 := eq_true p191
     replace q191 := eq_true q191
     go_wp2_with (first | ((with_reducible refine gate_callee (f := 76) rfl ?_); refine goesL_ (some 43) rfl rfl Tryd.func76 (by kernel_rfl) rfl #[.pointer (some ⟨g174, 0, none⟩), .int .i64 4] rfl kA ?_; (with_reducible refine (field_Reader_Take.calls g174 x175000_2 x175001_2 x175002_2 4 t192 t193 t194 t195 w _ ?side1 ?side2 A24.out).mono ?_); (case side1 => repeat (first | (with_reducible first | exact HI174.out | apply IsS136.alloc | apply IsS136.drewN | apply IsS136.drew | apply IsS136.set_0 | apply IsS136.set_1 | apply IsS136.set_2 | refine IsS136.far ?_ NB174_170.out _) | exact HI174.out)); (case side2 => exact kB2 HB.out (IsS136.ge HI174.out) GE170.out); rintro e w25 ⟨rfl, hi, hb, hk⟩; refine ⟨_, rfl, ?_⟩; replace HO_32 := As (Kd.R_mono (Kd.R_keep (IsS136.apart (show IsS136 w _ g174 x175000_2 x175001_2 x175002_2 from by repeat (first | (with_reducible first | exact HI174.out | apply IsS136.alloc | apply IsS136.drewN | apply IsS136.drew | apply IsS136.set_0 | apply IsS136.set_1 | apply IsS136.set_2 | refine IsS136.far ?_ NB174_170.out _) | exact HI174.out)) (kR HO_32.out) (by decide)) hk (fun _ h => h.2)) (fun _ h => h.1)); replace BK170 := As (KeepBut.blk hk (kb BK170.out) NB170_174.out (by simp)); replace HB := As (hb); replace HI174 := As (hi); (try clear hb); (try clear hk); (try clear hi)))
     go_roundg k2
     case measure => have := HJ7.out; have := HK2.out; omega
     case rel => exact ⟨(wrap64 (x34_2 + 1)), (t193), (t194), (t195), kS, H', ⟨by have := HJ7.out; have := HK2.out; omega⟩, ⟨by (with_reducible repeat (first | apply Kd.R_alloc | apply Kd.R_drewN | apply Kd.R_drew)); exact HO_32.out⟩, ⟨kb BK170.out⟩, ⟨by repeat (first | (with_reducible first | exact HI174.out | apply IsS136.alloc | apply IsS136.drewN | apply IsS136.drew | apply IsS136.set_0 | apply IsS136.set_1 | apply IsS136.set_2 | refine IsS136.far ?_ NB174_170.out _) | exact HI174.out)⟩, ⟨kB2 HB.out (IsS136.ge HI174.out) GE170.out⟩⟩
    rw [if_neg c20] at H
    have c20b0 : decide (x34_2 < (y188.length : Int)) = false := decide_eq_false c20
    clear c20
    replace H := bS H
    obtain ⟨⟨t196, t197, t198, t199⟩, A26, H⟩ := H
    try dsimp -simprocs only at H
    by_cases c27 : t196 = 0
    ·rw [if_pos c27] at H
     have c27b0 : (t196 == 0) = true := beq_iff_eq.mpr c27
     have c27b1 : (t196 != 0) = false := bne_eq_false_iff_eq.mpr c27
     clear c27
     by_cases c28 : (Go.bits .and .i64 t175 32768) = 0
     ·rw [if_pos c28] at H
      have c28b0 : ((Go.bits .and .i64 t175 32768) == 0) = true := beq_iff_eq.mpr c28
      have c28b1 : ((Go.bits .and .i64 t175 32768) != 0) = false := bne_eq_false_iff_eq.mpr c28
      clear c28
      replace H := bS H
      obtain ⟨⟨t200, t201, t202, t203⟩, A29, H⟩ := H
      try dsimp -simprocs only at H
      simp only [Option.some.injEq, Prod.mk.injEq] at H
      obtain ⟨rfl, rfl, rfl⟩ := H
      go_wp2_with (first | ((with_reducible refine gate_callee (f := 85) rfl ?_); refine goesL_ (some 46) rfl rfl Tryd.func85 (by kernel_rfl) rfl #[.pointer (some ⟨g174, 0, none⟩)] rfl kA ?_; (with_reducible refine (field_Reader_Err.calls g174 x175000_2 x175001_2 x175002_2 t196 t197 t198 t199 w _ ?side1 ?side2 A26.out).mono ?_); (case side1 => repeat (first | (with_reducible first | exact HI174.out | apply IsS136.alloc | apply IsS136.drewN | apply IsS136.drew | apply IsS136.set_0 | apply IsS136.set_1 | apply IsS136.set_2 | refine IsS136.far ?_ NB174_170.out _) | exact HI174.out)); (case side2 => exact kB2 HB.out (IsS136.ge HI174.out) GE170.out); rintro e w30 ⟨rfl, hi, hb, hk⟩; refine ⟨_, rfl, ?_⟩; replace HO_32 := As (Kd.R_mono (Kd.R_keep (IsS136.apart (show IsS136 w _ g174 x175000_2 x175001_2 x175002_2 from by repeat (first | (with_reducible first | exact HI174.out | apply IsS136.alloc | apply IsS136.drewN | apply IsS136.drew | apply IsS136.set_0 | apply IsS136.set_1 | apply IsS136.set_2 | refine IsS136.far ?_ NB174_170.out _) | exact HI174.out)) (kR HO_32.out) (by decide)) hk (fun _ h => h.2)) (fun _ h => h.1)); replace BK170 := As (KeepBut.blk hk (kb BK170.out) NB170_174.out (by simp)); replace HB := As (hb); replace HI174 := As (hi); (try clear hb); (try clear hk); (try clear hi)) | ((with_reducible refine gate_callee (f := 87) rfl ?_); refine goesL_ (some 61) rfl rfl Tryd.func87 (by kernel_rfl) rfl #[.pointer (some ⟨g174, 0, none⟩)] rfl kA ?_; (with_reducible refine (field_Reader_Rest.calls g174 t197 t198 t199 t200 t201 t202 t203 w _ ?side1 ?side2 A29.out).mono ?_); (case side1 => repeat (first | (with_reducible first | exact HI174.out | apply IsS136.alloc | apply IsS136.drewN | apply IsS136.drew | apply IsS136.set_0 | apply IsS136.set_1 | apply IsS136.set_2 | refine IsS136.far ?_ NB174_170.out _) | exact HI174.out)); (case side2 => exact kB2 HB.out (IsS136.ge HI174.out) GE170.out); rintro e w31 ⟨rfl, hi, hb, hk⟩; refine ⟨_, rfl, ?_⟩; replace HO_32 := As (Kd.R_mono (Kd.R_keep (IsS136.apart (show IsS136 w _ g174 t197 t198 t199 from by repeat (first | (with_reducible first | exact HI174.out | apply IsS136.alloc | apply IsS136.drewN | apply IsS136.drew | apply IsS136.set_0 | apply IsS136.set_1 | apply IsS136.set_2 | refine IsS136.far ?_ NB174_170.out _) | exact HI174.out)) (kR HO_32.out) (by decide)) hk (fun _ h => h.2)) (fun _ h => h.1)); replace BK170 := As (KeepBut.blk hk (kb BK170.out) NB170_174.out (by simp)); replace HB := As (hb); replace HI174 := As (hi); (try clear hb); (try clear hk); (try clear hi)))
      go_ret3
      exact ⟨kE, by exact kB2 HB.out (IsS136.ge HI174.out) GE170.out⟩
     rw [if_neg c28] at H
     have c28b0 : ((Go.bits .and .i64 t175 32768) == 0) = false := beq_eq_false_iff_ne.mpr c28
     have c28b1 : ((Go.bits .and .i64 t175 32768) != 0) = true := bne_iff_ne.mpr c28
     replace H := bS H
     obtain ⟨t204, A32, H⟩ := H
     by_cases c33 : t204 = 0
     ·rw [if_pos c33] at H
      have c33b0 : (t204 == 0) = true := beq_iff_eq.mpr c33
      have c33b1 : (t204 != 0) = false := bne_eq_false_iff_eq.mpr c33
      clear c33
      replace H := bS H
      obtain ⟨⟨t205, t206, t207, t208⟩, A34, H⟩ := H
      try dsimp -simprocs only at H
      simp only [Option.some.injEq, Prod.mk.injEq] at H
      obtain ⟨rfl, rfl, rfl⟩ := H
      go_wp2_with (first | ((with_reducible refine gate_callee (f := 85) rfl ?_); refine goesL_ (some 46) rfl rfl Tryd.func85 (by kernel_rfl) rfl #[.pointer (some ⟨g174, 0, none⟩)] rfl kA ?_; (with_reducible refine (field_Reader_Err.calls g174 x175000_2 x175001_2 x175002_2 t196 t197 t198 t199 w _ ?side1 ?side2 A26.out).mono ?_); (case side1 => repeat (first | (with_reducible first | exact HI174.out | apply IsS136.alloc | apply IsS136.drewN | apply IsS136.drew | apply IsS136.set_0 | apply IsS136.set_1 | apply IsS136.set_2 | refine IsS136.far ?_ NB174_170.out _) | exact HI174.out)); (case side2 => exact kB2 HB.out (IsS136.ge HI174.out) GE170.out); rintro e w35 ⟨rfl, hi, hb, hk⟩; refine ⟨_, rfl, ?_⟩; replace HO_32 := As (Kd.R_mono (Kd.R_keep (IsS136.apart (show IsS136 w _ g174 x175000_2 x175001_2 x175002_2 from by repeat (first | (with_reducible first | exact HI174.out | apply IsS136.alloc | apply IsS136.drewN | apply IsS136.drew | apply IsS136.set_0 | apply IsS136.set_1 | apply IsS136.set_2 | refine IsS136.far ?_ NB174_170.out _) | exact HI174.out)) (kR HO_32.out) (by decide)) hk (fun _ h => h.2)) (fun _ h => h.1)); replace BK170 := As (KeepBut.blk hk (kb BK170.out) NB170_174.out (by simp)); replace HB := As (hb); replace HI174 := As (hi); (try clear hb); (try clear hk); (try clear hi); have hnb36 := NB170_174.out; have hnc36 := NB174_170.out; have hcz37_0 := cells_9 BK170.out; have hfz37_0 := fun j_ => blk_frozen BK170.out j_) | (go_at_call 29; (with_reducible refine (checksum_Sum.calls k2 d8 t204 _ A32.out).mono ?_); rintro e w' ⟨rfl, ⟨nd, rfl⟩⟩) | ((with_reducible refine gate_callee (f := 87) rfl ?_); refine goesL_ (some 61) rfl rfl Tryd.func87 (by kernel_rfl) rfl #[.pointer (some ⟨g174, 0, none⟩)] rfl kA ?_; (with_reducible refine (field_Reader_Rest.calls g174 t197 t198 t199 t205 t206 t207 t208 w _ ?side1 ?side2 A34.out).mono ?_); (case side1 => repeat (first | (with_reducible first | exact HI174.out | apply IsS136.alloc | apply IsS136.drewN | apply IsS136.drew | apply IsS136.set_0 | apply IsS136.set_1 | apply IsS136.set_2 | refine IsS136.far ?_ NB174_170.out _) | exact HI174.out)); (case side2 => exact kB2 HB.out (IsS136.ge HI174.out) GE170.out); rintro e w38 ⟨rfl, hi, hb, hk⟩; refine ⟨_, rfl, ?_⟩; replace HO_32 := As (Kd.R_mono (Kd.R_keep (IsS136.apart (show IsS136 w _ g174 t197 t198 t199 from by repeat (first | (with_reducible first | exact HI174.out | apply IsS136.alloc | apply IsS136.drewN | apply IsS136.drew | apply IsS136.set_0 | apply IsS136.set_1 | apply IsS136.set_2 | refine IsS136.far ?_ NB174_170.out _) | exact HI174.out)) (kR HO_32.out) (by decide)) hk (fun _ h => h.2)) (fun _ h => h.1)); replace BK170 := As (KeepBut.blk hk (kb BK170.out) NB170_174.out (by simp)); replace HB := As (hb); replace HI174 := As (hi); (try clear hb); (try clear hk); (try clear hi)))
      go_ret3
      exact ⟨kE, by exact kB2 HB.out (IsS136.ge HI174.out) GE170.out⟩
     rw [if_neg c33] at H
     have c33b0 : (t204 == 0) = false := beq_eq_false_iff_ne.mpr c33
     have c33b1 : (t204 != 0) = true := bne_iff_ne.mpr c33
     simp only [Option.some.injEq, Prod.mk.injEq] at H
     obtain ⟨rfl, rfl, rfl⟩ := H
     go_wp2_with (first | ((with_reducible refine gate_callee (f := 85) rfl ?_); refine goesL_ (some 46) rfl rfl Tryd.func85 (by kernel_rfl) rfl #[.pointer (some ⟨g174, 0, none⟩)] rfl kA ?_; (with_reducible refine (field_Reader_Err.calls g174 x175000_2 x175001_2 x175002_2 t196 t197 t198 t199 w _ ?side1 ?side2 A26.out).mono ?_); (case side1 => repeat (first | (with_reducible first | exact HI174.out | apply IsS136.alloc | apply IsS136.drewN | apply IsS136.drew | apply IsS136.set_0 | apply IsS136.set_1 | apply IsS136.set_2 | refine IsS136.far ?_ NB174_170.out _) | exact HI174.out)); (case side2 => exact kB2 HB.out (IsS136.ge HI174.out) GE170.out); rintro e w39 ⟨rfl, hi, hb, hk⟩; refine ⟨_, rfl, ?_⟩; replace HO_32 := As (Kd.R_mono (Kd.R_keep (IsS136.apart (show IsS136 w _ g174 x175000_2 x175001_2 x175002_2 from by repeat (first | (with_reducible first | exact HI174.out | apply IsS136.alloc | apply IsS136.drewN | apply IsS136.drew | apply IsS136.set_0 | apply IsS136.set_1 | apply IsS136.set_2 | refine IsS136.far ?_ NB174_170.out _) | exact HI174.out)) (kR HO_32.out) (by decide)) hk (fun _ h => h.2)) (fun _ h => h.1)); replace BK170 := As (KeepBut.blk hk (kb BK170.out) NB170_174.out (by simp)); replace HB := As (hb); replace HI174 := As (hi); (try clear hb); (try clear hk); (try clear hi); have hnb40 := NB170_174.out; have hnc40 := NB174_170.out; have hcz41_0 := cells_9 BK170.out; have hfz41_0 := fun j_ => blk_frozen BK170.out j_) | (go_at_call 29; (with_reducible refine (checksum_Sum.calls k2 d8 t204 _ A32.out).mono ?_); rintro e w' ⟨rfl, ⟨nd, rfl⟩⟩))
     go_ret3
     exact ⟨kE, by exact kB2 HB.out (IsS136.ge HI174.out) GE170.out⟩
    rw [if_neg c27] at H
    have c27b0 : (t196 == 0) = false := beq_eq_false_iff_ne.mpr c27
    have c27b1 : (t196 != 0) = true := bne_iff_ne.mpr c27
    simp only [Option.some.injEq, Prod.mk.injEq] at H
    obtain ⟨rfl, rfl, rfl⟩ := H
    go_wp2_with (first | ((with_reducible refine gate_callee (f := 85) rfl ?_); refine goesL_ (some 46) rfl rfl Tryd.func85 (by kernel_rfl) rfl #[.pointer (some ⟨g174, 0, none⟩)] rfl kA ?_; (with_reducible refine (field_Reader_Err.calls g174 x175000_2 x175001_2 x175002_2 t196 t197 t198 t199 w _ ?side1 ?side2 A26.out).mono ?_); (case side1 => repeat (first | (with_reducible first | exact HI174.out | apply IsS136.alloc | apply IsS136.drewN | apply IsS136.drew | apply IsS136.set_0 | apply IsS136.set_1 | apply IsS136.set_2 | refine IsS136.far ?_ NB174_170.out _) | exact HI174.out)); (case side2 => exact kB2 HB.out (IsS136.ge HI174.out) GE170.out); rintro e w42 ⟨rfl, hi, hb, hk⟩; refine ⟨_, rfl, ?_⟩; replace HO_32 := As (Kd.R_mono (Kd.R_keep (IsS136.apart (show IsS136 w _ g174 x175000_2 x175001_2 x175002_2 from by repeat (first | (with_reducible first | exact HI174.out | apply IsS136.alloc | apply IsS136.drewN | apply IsS136.drew | apply IsS136.set_0 | apply IsS136.set_1 | apply IsS136.set_2 | refine IsS136.far ?_ NB174_170.out _) | exact HI174.out)) (kR HO_32.out) (by decide)) hk (fun _ h => h.2)) (fun _ h => h.1)); replace BK170 := As (KeepBut.blk hk (kb BK170.out) NB170_174.out (by simp)); replace HB := As (hb); replace HI174 := As (hi); (try clear hb); (try clear hk); (try clear hi)))
    go_ret3
    exact ⟨kE, by exact kB2 HB.out (IsS136.ge HI174.out) GE170.out⟩
 rw [if_neg c7] at H
 have c7b0 : (t184 == 0) = false := beq_eq_false_iff_ne.mpr c7
 have c7b1 : (t184 != 0) = true := bne_iff_ne.mpr c7
 simp only [Option.some.injEq, Prod.mk.injEq] at H
 obtain ⟨rfl, rfl, rfl⟩ := H
 go_enter Tryd.func81, Tryd.ntmps81
 go_wp2_with (first | ((with_reducible refine gate_dst (N := 1) rfl ?_); refine box_event rfl (N := 1) rfl (cs := #[.bool d0, .int .u64 d1, .int .u64 d2, .bool d3, .int .u64 d4, .int .u64 d5, .int .i64 d6, .int .i64 d7, .string d8]) (t := 30) kG ?_; intro gb170 hg w43 hbox hb; have BK170 := As (hbox); have GW170 := As (gS hg (below_size (kB HB.out))); have GE170 := As (gS hg (below_size (kB HB.out))); replace HB := As (below_step (kB HB.out) hb); clear hb hbox hg; have hcz44_0 := cells_9 BK170.out; have hfz44_0 := fun j_ => blk_frozen BK170.out j_) | ((with_reducible refine gate_callee (f := 73) rfl ?_); refine goesL_ (some 14) rfl rfl Tryd.func73 (by kernel_rfl) rfl #[.string d8] rfl kA ?_; (with_reducible refine (field_NewReader.calls d8 t171 t172 t173 w _ ?side1 A2.out).mono ?_); (case side1 => exact kB1 HB.out GE170.out); rintro e w45 ⟨g174, rfl, hi, hb, hb2⟩; refine ⟨_, rfl, ?_⟩; replace HB := As (hb); have HI174 := As (hi); have NB174_170 := As (IsS136.ne_blk hi (blk_below (kb BK170.out) hb2) (by decide)); have NB170_174 := As (Ne.symm (IsS136.ne_blk hi (blk_below (kb BK170.out) hb2) (by decide))); replace BK170 := As (blk_below (kb BK170.out) hb2); (try clear hb); (try clear hb2); (try clear hi)) | ((with_reducible refine gate_callee (f := 74) rfl ?_); refine goesL_ (some 16) rfl rfl Tryd.func74 (by kernel_rfl) rfl #[.pointer (some ⟨g174, 0, none⟩), .int .i64 2] rfl kA ?_; (with_reducible refine (field_Reader_Int.calls k g174 t171 t172 t173 2 t175 t176 t177 t178 w _ ?side1 ?side2 A3.out).mono ?_); (case side1 => repeat (first | (with_reducible first | exact HI174.out | apply IsS136.alloc | apply IsS136.drewN | apply IsS136.drew | apply IsS136.set_0 | apply IsS136.set_1 | apply IsS136.set_2 | refine IsS136.far ?_ NB174_170.out _) | exact HI174.out)); (case side2 => exact kB2 HB.out (IsS136.ge HI174.out) GE170.out); rintro e w46 ⟨rfl, hi, hb, hk⟩; refine ⟨_, rfl, ?_⟩; replace BK170 := As (KeepBut.blk hk (kb BK170.out) NB170_174.out (by simp)); replace HB := As (hb); replace HI174 := As (hi); (try clear hb); (try clear hk); (try clear hi)) | ((with_reducible refine gate_callee (f := 74) rfl ?_); refine goesL_ (some 18) rfl rfl Tryd.func74 (by kernel_rfl) rfl #[.pointer (some ⟨g174, 0, none⟩), .int .i64 2] rfl kA ?_; (with_reducible refine (field_Reader_Int.calls k g174 t176 t177 t178 2 t179 t180 t181 t182 w _ ?side1 ?side2 A4.out).mono ?_); (case side1 => repeat (first | (with_reducible first | exact HI174.out | apply IsS136.alloc | apply IsS136.drewN | apply IsS136.drew | apply IsS136.set_0 | apply IsS136.set_1 | apply IsS136.set_2 | refine IsS136.far ?_ NB174_170.out _) | exact HI174.out)); (case side2 => exact kB2 HB.out (IsS136.ge HI174.out) GE170.out); rintro e w47 ⟨rfl, hi, hb, hk⟩; refine ⟨_, rfl, ?_⟩; replace BK170 := As (KeepBut.blk hk (kb BK170.out) NB170_174.out (by simp)); replace HB := As (hb); replace HI174 := As (hi); (try clear hb); (try clear hk); (try clear hi)) | ((with_reducible refine gate_callee (f := 48) rfl ?_); refine goesL_ (some 19) rfl rfl Tryd.func48 (by kernel_rfl) rfl #[.int .i64 t179] rfl kA ?_; (with_reducible refine (tunnel_kindOf.calls t179 t183 _ A5.out).mono ?_); rintro e w' ⟨rfl, ⟨nd, rfl⟩⟩; refine ⟨_, rfl, ?_⟩) | ((with_reducible refine gate_callee (f := 85) rfl ?_); refine goesL_ (some 21) rfl rfl Tryd.func85 (by kernel_rfl) rfl #[.pointer (some ⟨g174, 0, none⟩)] rfl kA ?_; (with_reducible refine (field_Reader_Err.calls g174 t180 t181 t182 t184 t185 t186 t187 w _ ?side1 ?side2 A6.out).mono ?_); (case side1 => repeat (first | (with_reducible first | exact HI174.out | apply IsS136.alloc | apply IsS136.drewN | apply IsS136.drew | apply IsS136.set_0 | apply IsS136.set_1 | apply IsS136.set_2 | refine IsS136.far ?_ NB174_170.out _) | exact HI174.out)); (case side2 => exact kB2 HB.out (IsS136.ge HI174.out) GE170.out); rintro e w48 ⟨rfl, hi, hb, hk⟩; refine ⟨_, rfl, ?_⟩; replace BK170 := As (KeepBut.blk hk (kb BK170.out) NB170_174.out (by simp)); replace HB := As (hb); replace HI174 := As (hi); (try clear hb); (try clear hk); (try clear hi)))
 go_ret3
 exact ⟨kE, by exact kB2 HB.out (IsS136.ge HI174.out) GE170.out⟩

/-! ### field_part: function 118: told in its three ways -/
set_option maxHeartbeats 8000000 in
set_option maxRecDepth 100000 in
theorem field_part.range (s : ByteArray) (at_ size : Int) (w : World) (h : (size < 1 ∨ 7 < size) ∨ at_ < 0) :
    Calls Tryd.prog 118 #[.string s, .int .i64 at_, .int .i64 size] w fun e w' => e = .returned (.tuple #[.slice none 0 0, .int .i64 4]) ∧ Below w.heap.size w w' := by
  by_cases hv : 1 ≤ size ∧ size ≤ 7
  · have ha : decide (at_ < 0) = true := decide_eq_true (by omega)
    have A1 := As (show field_valid.f size = some true by unfold field_valid.f; rw [if_pos hv.1]; simp [hv.2])
    clear h hv
    go_enter Tryd.func118, Tryd.ntmps118
    go_wp2_with (first | (go_at_call 54; (with_reducible refine (field_valid.calls size true _ A1.out).mono ?_); rintro e w' ⟨rfl, ⟨nd, rfl⟩⟩))
    go_ret2
    exact ⟨rfl, by repeat (first | (with_reducible first | exact Below.refl _ _ | apply below_alloc | apply pw_below_drewN | apply below_drew1) | exact Below.refl _ _)⟩
  have A1 := As (show field_valid.f size = some false by unfold field_valid.f; split <;> simp; omega)
  clear h hv
  go_enter Tryd.func118, Tryd.ntmps118
  go_wp2_with (first | (go_at_call 54; (with_reducible refine (field_valid.calls size false _ A1.out).mono ?_); rintro e w' ⟨rfl, ⟨nd, rfl⟩⟩))
  go_ret2
  exact ⟨rfl, by repeat (first | (with_reducible first | exact Below.refl _ _ | apply below_alloc | apply pw_below_drewN | apply below_drew1) | exact Below.refl _ _)⟩
set_option maxHeartbeats 8000000 in
set_option maxRecDepth 100000 in
theorem field_part.short (s : ByteArray) (at_ size : Int) (w : World) (h1 : 1 ≤ size) (h7 : size ≤ 7) (h0 : 0 ≤ at_) (hs : s.size ≤ 9223372036854775807) (h : (s.size : Int) < at_ ∨ (s.size : Int) - at_ < size) :
    Calls Tryd.prog 118 #[.string s, .int .i64 at_, .int .i64 size] w fun e w' => e = .returned (.tuple #[.slice none 0 0, .int .i64 1]) ∧ Below w.heap.size w w' := by
  have A1 := As (show field_valid.f size = some true by unfold field_valid.f; rw [if_pos h1]; simp [h7])
  have ha : decide (at_ < 0) = false := decide_eq_false (by omega)
  by_cases hb : (s.size : Int) < at_
  · have hc : decide ((s.size : Int) < at_) = true := decide_eq_true hb
    clear h hb
    go_enter Tryd.func118, Tryd.ntmps118
    go_wp2_with (first | (go_at_call 54; (with_reducible refine (field_valid.calls size true _ A1.out).mono ?_); rintro e w' ⟨rfl, ⟨nd, rfl⟩⟩))
    go_ret2
    exact ⟨rfl, by repeat (first | (with_reducible first | exact Below.refl _ _ | apply below_alloc | apply pw_below_drewN | apply below_drew1) | exact Below.refl _ _)⟩
  have hc : decide ((s.size : Int) < at_) = false := decide_eq_false hb
  have hd : decide ((s.size : Int) - at_ < size) = true := decide_eq_true (by omega)
  clear h
  go_enter Tryd.func118, Tryd.ntmps118
  go_wp2_with (first | (go_at_call 54; (with_reducible refine (field_valid.calls size true _ A1.out).mono ?_); rintro e w' ⟨rfl, ⟨nd, rfl⟩⟩))
  go_ret2
  exact ⟨rfl, by repeat (first | (with_reducible first | exact Below.refl _ _ | apply below_alloc | apply pw_below_drewN | apply below_drew1) | exact Below.refl _ _)⟩
set_option maxHeartbeats 8000000 in
set_option maxRecDepth 100000 in
theorem field_part.whole (s : ByteArray) (size : Int) (w : World) (h1 : 1 ≤ size) (h7 : size ≤ 7) (hs : (s.size : Int) = size) :
    Calls Tryd.prog 118 #[.string s, .int .i64 0, .int .i64 size] w fun e w' => ∃ W1, e = .returned (.tuple #[.slice (some ⟨W1.heap.size, 0, none⟩) s.size s.size, .int .i64 0]) ∧ Below w.heap.size w W1 ∧ w' = Lib.bytesWorld W1 5 s := by
  have A1 := As (show field_valid.f size = some true by unfold field_valid.f; rw [if_pos h1]; simp [h7])
  have hb : decide ((s.size : Int) < 0) = false := decide_eq_false (by omega)
  have hd : decide ((s.size : Int) < size) = false := decide_eq_false (by omega)
  have HS := As hs
  have hsz : s.size ≤ 9223372036854775807 := by omega
  have hs0 : (0 : Int) ≤ (s.size : Int) := by omega
  have h00 : decide ((s.size : Int) < 0) = false := decide_eq_false (by omega)
  clear hs
  go_enter Tryd.func118, Tryd.ntmps118
  go_wp2_with (first | (go_at_call 54; (with_reducible refine (field_valid.calls size true _ A1.out).mono ?_); rintro e w' ⟨rfl, ⟨nd, rfl⟩⟩) | ((with_reducible refine gate_dst (N := 31) rfl ?_); refine conv_at 5 rfl (N := 31) rfl 9 47 _ rfl Tryd.underlying9 Tryd.underlying47 Tryd.underlying5 s rfl ?_) | ((with_reducible refine gate_dst (N := 40) rfl ?_); refine cut_at 5 rfl (N := 40) rfl 47 _ _ _ _ rfl Tryd.underlying47 (by kernel_rfl) w.heap.size s.size (grownCap (w.drewN nd) s.size 0 5) size HS.out.symm (by have := HS.out; omega) (grownCap_ge _ s.size 0 5) rfl rfl rfl rfl ?_))
  go_ret2
  exact ⟨w.drewN nd, rfl, pw_below_drewN (Below.refl _ _) nd, rfl⟩

end Go.Proofs.YtocobalkikkhlaaDoor.X
-- short
-- short2
