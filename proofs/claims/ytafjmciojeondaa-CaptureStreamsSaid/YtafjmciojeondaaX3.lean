/- Functions and their walks, printed by xprint.py. -/
import Derived.Test.YtafjmciojeondaaX0
namespace Go.Proofs.Ytafjmciojeondaa.X
open Go.RowKit Go.Proofs.YtafjmciojeondaaW.PrintWords Go.Proofs.YtafjmciojeondaaW.PrintLast Go.Proofs.YtafjmciojeondaaW.PrintMore
attribute [local go_sem] max2_int min2_int max_two min_two max_three min_three max_four min_four   -- for this text's walks alone
set_option linter.unusedVariables false
set_option linter.unusedSimpArgs false

/-- A state of type 47 at block g of W; what its slices lead to came in by w0. -/
def IsS47 (w0 W : World) (g : Nat) (f0 : ByteArray) (f1 : Int) (f2 : Bool) (f3 : Bool) (f4 : Int) (f5 : Int) (f6 : Bool) : Prop := W.heap[g]? = some (.cells #[.string f0, .int .i64 f1, .bool f2, .bool f3, .int .i64 f4, .int .i64 f5, .bool f6] 47 (0, 0)) ∧ w0.heap.size ≤ g
theorem IsS47.grown {w0 W : World} {g : Nat} {f0 : ByteArray} {f1 : Int} {f2 : Bool} {f3 : Bool} {f4 : Int} {f5 : Int} {f6 : Bool} {W1 : World} {row : Option Nat} (h : IsS47 w0 W g f0 f1 f2 f3 f4 f5 f6) (hw : W.grownBy W1 row) (hne : some g ≠ row) : IsS47 w0 W1 g f0 f1 f2 f3 f4 f5 f6 := by
 obtain ⟨hb, hg⟩ := h
 exact ⟨blk_grown hb hw hne, hg⟩
theorem IsS47.own_neN {w0 W : World} {g : Nat} {f0 : ByteArray} {f1 : Int} {f2 : Bool} {f3 : Bool} {f4 : Int} {f5 : Int} {f6 : Bool} {α : Type} {d : Kd α} {e : Nat} {base : Nat} {ok : Nat → Prop} {v : Value} {xs : List α} (h : IsS47 w0 W g f0 f1 f2 f3 f4 f5 f6) (ho : Kd.N d e W base ok v xs) (ht : e ≠ 47) : some g ≠ v.ownBlock := by
 obtain ⟨hb, hg⟩ := h
 exact Kd.N_ne ho hb ht
theorem IsS47.fresh {w0 W : World} {g : Nat} {f0 : ByteArray} {f1 : Int} {f2 : Bool} {f3 : Bool} {f4 : Int} {f5 : Int} {f6 : Bool} (h : IsS47 w0 W g f0 f1 f2 f3 f4 f5 f6) : ∀ k, W.heap.size ≤ k → k ≠ g := by
 obtain ⟨hb, hg⟩ := h
 exact Kd.freshB hb
theorem IsS47.kept {w0 W : World} {g : Nat} {f0 : ByteArray} {f1 : Int} {f2 : Bool} {f3 : Bool} {f4 : Int} {f5 : Int} {f6 : Bool} {W1 : World} {S : Nat → Prop} (h : IsS47 w0 W g f0 f1 f2 f3 f4 f5 f6) (hk : Kept W W1 S) (hne : ¬ S g) : IsS47 w0 W1 g f0 f1 f2 f3 f4 f5 f6 := by
 obtain ⟨hb, hg⟩ := h
 exact ⟨blk_kept hb hk hne, hg⟩
theorem IsS47.below {w0 W : World} {g : Nat} {f0 : ByteArray} {f1 : Int} {f2 : Bool} {f3 : Bool} {f4 : Int} {f5 : Int} {f6 : Bool} {W1 : World} (h : IsS47 w0 W g f0 f1 f2 f3 f4 f5 f6) (hw : Below W.heap.size W W1) : IsS47 w0 W1 g f0 f1 f2 f3 f4 f5 f6 := h.grown (grown_of_below hw none) (by simp)
theorem IsS47.alloc {w0 W : World} {g : Nat} {f0 : ByteArray} {f1 : Int} {f2 : Bool} {f3 : Bool} {f4 : Int} {f5 : Int} {f6 : Bool} (h : IsS47 w0 W g f0 f1 f2 f3 f4 f5 f6) (o : Obj) : IsS47 w0 (W.alloc o) g f0 f1 f2 f3 f4 f5 f6 := h.below (below_alloc (Below.refl _ _) o)
theorem IsS47.drewN {w0 W : World} {g : Nat} {f0 : ByteArray} {f1 : Int} {f2 : Bool} {f3 : Bool} {f4 : Int} {f5 : Int} {f6 : Bool} (h : IsS47 w0 W g f0 f1 f2 f3 f4 f5 f6) (m : Nat) : IsS47 w0 (W.drewN m) g f0 f1 f2 f3 f4 f5 f6 := h
theorem IsS47.drew {w0 W : World} {g : Nat} {f0 : ByteArray} {f1 : Int} {f2 : Bool} {f3 : Bool} {f4 : Int} {f5 : Int} {f6 : Bool} (h : IsS47 w0 W g f0 f1 f2 f3 f4 f5 f6) : IsS47 w0 W.drew g f0 f1 f2 f3 f4 f5 f6 := h
theorem IsS47.at_ {w0 W : World} {g : Nat} {f0 : ByteArray} {f1 : Int} {f2 : Bool} {f3 : Bool} {f4 : Int} {f5 : Int} {f6 : Bool} {w' : World} {m : Nat} (hq : W.drewN m = w') (h : IsS47 w0 W g f0 f1 f2 f3 f4 f5 f6) : IsS47 w0 w' g f0 f1 f2 f3 f4 f5 f6 := by subst hq; exact IsS47.drewN h m
theorem IsS47.apart {w0 W : World} {g : Nat} {f0 : ByteArray} {f1 : Int} {f2 : Bool} {f3 : Bool} {f4 : Int} {f5 : Int} {f6 : Bool} {α : Type} {d : Kd α} {e : Nat} {base : Nat} {ok : Nat → Prop} {v : Value} {xs : List α} (h : IsS47 w0 W g f0 f1 f2 f3 f4 f5 f6) (ho : d.R e W base ok v xs) (ht : ∀ q, q ∈ e :: d.E → q ≠ 47) : d.R e W base (fun k => ok k ∧ k ≠ g) v xs := by
 obtain ⟨hb, hg⟩ := h
 exact Kd.R_types ho hb ht
theorem IsS47.own_ne {w0 W : World} {g : Nat} {f0 : ByteArray} {f1 : Int} {f2 : Bool} {f3 : Bool} {f4 : Int} {f5 : Int} {f6 : Bool} {α : Type} {d : Kd α} {e : Nat} {base : Nat} {ok : Nat → Prop} {v : Value} {xs : List α} (h : IsS47 w0 W g f0 f1 f2 f3 f4 f5 f6) (ho : d.R e W base ok v xs) (ht : e ≠ 47) : some g ≠ v.ownBlock := by
 obtain ⟨hb, hg⟩ := h
 exact Kd.R_ne ho hb ht
theorem IsS47.apartQ {w0 W : World} {g : Nat} {f0 : ByteArray} {f1 : Int} {f2 : Bool} {f3 : Bool} {f4 : Int} {f5 : Int} {f6 : Bool} {α : Type} {d : Kd α} {e : Nat} {base : Nat} {ok : Nat → Prop} {v : Value} {xs : List α} (h : IsS47 w0 W g f0 f1 f2 f3 f4 f5 f6) (ho : d.Q e W base ok v xs) (ht : ∀ q, q ∈ e :: d.E → q ≠ 47) : d.Q e W base (fun k => ok k ∧ k ≠ g) v xs := by
 obtain ⟨hb, hg⟩ := h
 exact Kd.Q_types ho hb ht
theorem IsS47.own_neQ {w0 W : World} {g : Nat} {f0 : ByteArray} {f1 : Int} {f2 : Bool} {f3 : Bool} {f4 : Int} {f5 : Int} {f6 : Bool} {α : Type} {d : Kd α} {e : Nat} {base : Nat} {ok : Nat → Prop} {v : Value} {xs : List α} (h : IsS47 w0 W g f0 f1 f2 f3 f4 f5 f6) (ho : d.Q e W base ok v xs) (ht : e ≠ 47) : some g ≠ v.ownBlock := by
 obtain ⟨hb, hg⟩ := h
 exact Kd.Q_ne ho hb ht
theorem IsS47.apartS {w0 W : World} {g : Nat} {f0 : ByteArray} {f1 : Int} {f2 : Bool} {f3 : Bool} {f4 : Int} {f5 : Int} {f6 : Bool} {α : Type} {d : Kd α} {e : Nat} {base : Nat} {ok : Nat → Prop} {v : Value} {xs : List α} (h : IsS47 w0 W g f0 f1 f2 f3 f4 f5 f6) (ho : d.S e W base ok v xs) (ht : ∀ q, q ∈ e :: d.E → q ≠ 47) : d.S e W base (fun k => ok k ∧ k ≠ g) v xs := by
 obtain ⟨hb, hg⟩ := h
 exact Kd.S_types ho hb ht
theorem IsS47.own_neS {w0 W : World} {g : Nat} {f0 : ByteArray} {f1 : Int} {f2 : Bool} {f3 : Bool} {f4 : Int} {f5 : Int} {f6 : Bool} {α : Type} {d : Kd α} {e : Nat} {base : Nat} {ok : Nat → Prop} {v : Value} {xs : List α} (h : IsS47 w0 W g f0 f1 f2 f3 f4 f5 f6) (ho : d.S e W base ok v xs) (ht : e ≠ 47) : some g ≠ v.ownBlock := by
 obtain ⟨hb, hg⟩ := h
 exact Kd.S_ne ho hb ht
theorem IsS47.lt {w0 W : World} {g : Nat} {f0 : ByteArray} {f1 : Int} {f2 : Bool} {f3 : Bool} {f4 : Int} {f5 : Int} {f6 : Bool} (h : IsS47 w0 W g f0 f1 f2 f3 f4 f5 f6) : g < W.heap.size := by
 obtain ⟨hb, hg⟩ := h
 exact blk_lt hb
theorem IsS47.ge {w0 W : World} {g : Nat} {f0 : ByteArray} {f1 : Int} {f2 : Bool} {f3 : Bool} {f4 : Int} {f5 : Int} {f6 : Bool} (h : IsS47 w0 W g f0 f1 f2 f3 f4 f5 f6) : w0.heap.size ≤ g := by
 obtain ⟨hb, hg⟩ := h
 exact hg
theorem IsS47.ne_blk {w0 W : World} {g : Nat} {f0 : ByteArray} {f1 : Int} {f2 : Bool} {f3 : Bool} {f4 : Int} {f5 : Int} {f6 : Bool} {a : Nat} {cs : Array Value} {t : TypeId} {fr : Nat × Nat} (h : IsS47 w0 W g f0 f1 f2 f3 f4 f5 f6) (hb2 : W.heap[a]? = some (.cells cs t fr)) (ht : t ≠ 47) : g ≠ a := by
 obtain ⟨hb, hg⟩ := h
 rintro rfl
 rw [hb] at hb2
 injection hb2 with hb2
 injection hb2 with _ ht2
 exact ht ht2.symm
theorem IsS47.far {w0 W : World} {g : Nat} {f0 : ByteArray} {f1 : Int} {f2 : Bool} {f3 : Bool} {f4 : Int} {f5 : Int} {f6 : Bool} {p : Addr} (h : IsS47 w0 W g f0 f1 f2 f3 f4 f5 f6) (hne : g ≠ p.block) (u : Value) : IsS47 w0 (W.setCell p u) g f0 f1 f2 f3 f4 f5 f6 := by
 obtain ⟨hb, hg⟩ := h
 exact ⟨blk_far hb hne u, hg⟩
theorem cellS47_0 {W : World} {g : Nat} {f0 : ByteArray} {f1 : Int} {f2 : Bool} {f3 : Bool} {f4 : Int} {f5 : Int} {f6 : Bool} (h : W.heap[g]? = some (.cells #[.string f0, .int .i64 f1, .bool f2, .bool f3, .int .i64 f4, .int .i64 f5, .bool f6] 47 (0, 0))) : W.cell? ⟨g, 0, none⟩ = some (.string f0) := (blk_cell h 0).trans rfl
theorem IsS47.set_0 {w0 W : World} {g : Nat} {f0 : ByteArray} {f1 : Int} {f2 : Bool} {f3 : Bool} {f4 : Int} {f5 : Int} {f6 : Bool} (h : IsS47 w0 W g f0 f1 f2 f3 f4 f5 f6) (x : ByteArray) : IsS47 w0 (W.setCell ⟨g, 0, none⟩ (.string x)) g x f1 f2 f3 f4 f5 f6 := by
 obtain ⟨hb, hg⟩ := h
 exact ⟨by simpa using blk_set hb 0 (.string x), hg⟩
theorem cellS47_1 {W : World} {g : Nat} {f0 : ByteArray} {f1 : Int} {f2 : Bool} {f3 : Bool} {f4 : Int} {f5 : Int} {f6 : Bool} (h : W.heap[g]? = some (.cells #[.string f0, .int .i64 f1, .bool f2, .bool f3, .int .i64 f4, .int .i64 f5, .bool f6] 47 (0, 0))) : W.cell? ⟨g, 1, none⟩ = some (.int .i64 f1) := (blk_cell h 1).trans rfl
theorem IsS47.set_1 {w0 W : World} {g : Nat} {f0 : ByteArray} {f1 : Int} {f2 : Bool} {f3 : Bool} {f4 : Int} {f5 : Int} {f6 : Bool} (h : IsS47 w0 W g f0 f1 f2 f3 f4 f5 f6) (x : Int) : IsS47 w0 (W.setCell ⟨g, 1, none⟩ (.int .i64 x)) g f0 x f2 f3 f4 f5 f6 := by
 obtain ⟨hb, hg⟩ := h
 exact ⟨by simpa using blk_set hb 1 (.int .i64 x), hg⟩
theorem cellS47_2 {W : World} {g : Nat} {f0 : ByteArray} {f1 : Int} {f2 : Bool} {f3 : Bool} {f4 : Int} {f5 : Int} {f6 : Bool} (h : W.heap[g]? = some (.cells #[.string f0, .int .i64 f1, .bool f2, .bool f3, .int .i64 f4, .int .i64 f5, .bool f6] 47 (0, 0))) : W.cell? ⟨g, 2, none⟩ = some (.bool f2) := (blk_cell h 2).trans rfl
theorem IsS47.set_2 {w0 W : World} {g : Nat} {f0 : ByteArray} {f1 : Int} {f2 : Bool} {f3 : Bool} {f4 : Int} {f5 : Int} {f6 : Bool} (h : IsS47 w0 W g f0 f1 f2 f3 f4 f5 f6) (x : Bool) : IsS47 w0 (W.setCell ⟨g, 2, none⟩ (.bool x)) g f0 f1 x f3 f4 f5 f6 := by
 obtain ⟨hb, hg⟩ := h
 exact ⟨by simpa using blk_set hb 2 (.bool x), hg⟩
theorem cellS47_3 {W : World} {g : Nat} {f0 : ByteArray} {f1 : Int} {f2 : Bool} {f3 : Bool} {f4 : Int} {f5 : Int} {f6 : Bool} (h : W.heap[g]? = some (.cells #[.string f0, .int .i64 f1, .bool f2, .bool f3, .int .i64 f4, .int .i64 f5, .bool f6] 47 (0, 0))) : W.cell? ⟨g, 3, none⟩ = some (.bool f3) := (blk_cell h 3).trans rfl
theorem IsS47.set_3 {w0 W : World} {g : Nat} {f0 : ByteArray} {f1 : Int} {f2 : Bool} {f3 : Bool} {f4 : Int} {f5 : Int} {f6 : Bool} (h : IsS47 w0 W g f0 f1 f2 f3 f4 f5 f6) (x : Bool) : IsS47 w0 (W.setCell ⟨g, 3, none⟩ (.bool x)) g f0 f1 f2 x f4 f5 f6 := by
 obtain ⟨hb, hg⟩ := h
 exact ⟨by simpa using blk_set hb 3 (.bool x), hg⟩
theorem cellS47_4 {W : World} {g : Nat} {f0 : ByteArray} {f1 : Int} {f2 : Bool} {f3 : Bool} {f4 : Int} {f5 : Int} {f6 : Bool} (h : W.heap[g]? = some (.cells #[.string f0, .int .i64 f1, .bool f2, .bool f3, .int .i64 f4, .int .i64 f5, .bool f6] 47 (0, 0))) : W.cell? ⟨g, 4, none⟩ = some (.int .i64 f4) := (blk_cell h 4).trans rfl
theorem IsS47.set_4 {w0 W : World} {g : Nat} {f0 : ByteArray} {f1 : Int} {f2 : Bool} {f3 : Bool} {f4 : Int} {f5 : Int} {f6 : Bool} (h : IsS47 w0 W g f0 f1 f2 f3 f4 f5 f6) (x : Int) : IsS47 w0 (W.setCell ⟨g, 4, none⟩ (.int .i64 x)) g f0 f1 f2 f3 x f5 f6 := by
 obtain ⟨hb, hg⟩ := h
 exact ⟨by simpa using blk_set hb 4 (.int .i64 x), hg⟩
theorem cellS47_5 {W : World} {g : Nat} {f0 : ByteArray} {f1 : Int} {f2 : Bool} {f3 : Bool} {f4 : Int} {f5 : Int} {f6 : Bool} (h : W.heap[g]? = some (.cells #[.string f0, .int .i64 f1, .bool f2, .bool f3, .int .i64 f4, .int .i64 f5, .bool f6] 47 (0, 0))) : W.cell? ⟨g, 5, none⟩ = some (.int .i64 f5) := (blk_cell h 5).trans rfl
theorem IsS47.set_5 {w0 W : World} {g : Nat} {f0 : ByteArray} {f1 : Int} {f2 : Bool} {f3 : Bool} {f4 : Int} {f5 : Int} {f6 : Bool} (h : IsS47 w0 W g f0 f1 f2 f3 f4 f5 f6) (x : Int) : IsS47 w0 (W.setCell ⟨g, 5, none⟩ (.int .i64 x)) g f0 f1 f2 f3 f4 x f6 := by
 obtain ⟨hb, hg⟩ := h
 exact ⟨by simpa using blk_set hb 5 (.int .i64 x), hg⟩
theorem cellS47_6 {W : World} {g : Nat} {f0 : ByteArray} {f1 : Int} {f2 : Bool} {f3 : Bool} {f4 : Int} {f5 : Int} {f6 : Bool} (h : W.heap[g]? = some (.cells #[.string f0, .int .i64 f1, .bool f2, .bool f3, .int .i64 f4, .int .i64 f5, .bool f6] 47 (0, 0))) : W.cell? ⟨g, 6, none⟩ = some (.bool f6) := (blk_cell h 6).trans rfl
theorem IsS47.set_6 {w0 W : World} {g : Nat} {f0 : ByteArray} {f1 : Int} {f2 : Bool} {f3 : Bool} {f4 : Int} {f5 : Int} {f6 : Bool} (h : IsS47 w0 W g f0 f1 f2 f3 f4 f5 f6) (x : Bool) : IsS47 w0 (W.setCell ⟨g, 6, none⟩ (.bool x)) g f0 f1 f2 f3 f4 f5 x := by
 obtain ⟨hb, hg⟩ := h
 exact ⟨by simpa using blk_set hb 6 (.bool x), hg⟩
theorem IsS47.new (w0 W : World) (f0 : ByteArray) (f1 : Int) (f2 : Bool) (f3 : Bool) (f4 : Int) (f5 : Int) (f6 : Bool) (hB : Below w0.heap.size w0 W) : IsS47 w0 (W.alloc (.cells #[.string f0, .int .i64 f1, .bool f2, .bool f3, .int .i64 f4, .int .i64 f5, .bool f6] 47)) W.heap.size f0 f1 f2 f3 f4 f5 f6 := ⟨by simpa using heap_alloc_new W _, hB.size⟩

/-! ### capture_NewReader: function 20 -/
def capture_NewReader.f  : Option (ByteArray × Int × Bool × Bool × Int × Int × Bool) := some ((⟨#[]⟩ : ByteArray), 0, false, false, 0, 0, false)
set_option maxHeartbeats 8000000 in
set_option maxRecDepth 100000 in
theorem capture_NewReader.calls  (r1 : ByteArray) (r2 : Int) (r3 : Bool) (r4 : Bool) (r5 : Int) (r6 : Int) (r7 : Bool) (w0 w : World) (hB : Below w0.heap.size w0 w) (h : capture_NewReader.f  = some (r1, r2, r3, r4, r5, r6, r7)) :
  Calls Try.prog 20 #[] w fun e w' => ∃ g_ : Nat, e = .returned (.pointer (some ⟨g_, 0, none⟩)) ∧ IsS47 w0 w' g_ r1 r2 r3 r4 r5 r6 r7 ∧ Below w0.heap.size w0 w' ∧ Below w.heap.size w w' := by
 have hu47 := Try.underlying47
 have HBW := As (Below.refl w.heap.size w)
 have HW0 := As hB.size
 have HB := As hB
 clear hB
 have H : (some ((⟨#[]⟩ : ByteArray), 0, false, false, 0, 0, false)) = some (r1, r2, r3, r4, r5, r6, r7) := h
 clear h
 simp only [Option.some.injEq, Prod.mk.injEq] at H
 obtain ⟨rfl, rfl, rfl, rfl, rfl, rfl, rfl⟩ := H
 go_enter Try.func20, Try.ntmps20
 go_wp2_with (first | ((with_reducible refine gate_dst (N := 2) rfl ?_); refine box_event rfl (N := 2) rfl (cs := #[.string (⟨#[]⟩ : ByteArray), .int .i64 0, .bool false, .bool false, .int .i64 0, .int .i64 0, .bool false]) (t := 47) kG ?_; intro gb101 hg w1 hbox hb; replace HB := As (below_step (kB HB.out) hb); have BK101 := As (hbox); have GW101 := As ((by rw [hg]; exact (below_size (kB HBW.out)) : w.heap.size ≤ gb101)); have GE101 := As ((Nat.le_trans HW0.out (by rw [hg]; exact (below_size (kB HBW.out)) : w.heap.size ≤ gb101) : w0.heap.size ≤ gb101)); replace HBW := As (below_step HBW.out hb); clear hb hbox hg))
 go_ret
 exact ⟨_, rfl, (show IsS47 w0 _ gb101 (⟨#[]⟩ : ByteArray) 0 false false 0 0 false from ⟨by exact kb BK101.out, GE101.out⟩), by exact kB1 HB.out GE101.out, by exact kB1 HBW.out GW101.out⟩

/-! ### field_valid: function 38 -/
def field_valid.f (a0 : Int) : Option (Bool) := if a0 ≥ 1 then (some (decide (a0 ≤ 7))) else (some false)
set_option maxHeartbeats 8000000 in
set_option maxRecDepth 100000 in
theorem field_valid.calls (a0 : Int) (r : Bool) (w : World) (h : field_valid.f a0 = some r) :
  Calls Try.prog 38 #[.int .i64 a0] w fun e w' => e = .returned (.bool r) ∧ Drawn0 w w' := by
 have H : (if a0 ≥ 1 then (some (decide (a0 ≤ 7))) else (some false)) = some r := h
 clear h
 by_cases c2 : a0 ≥ 1
 ·rw [if_pos c2] at H
  have c2b0 : decide (1 ≤ a0) = true := decide_eq_true c2
  clear c2
  obtain rfl := Option.some.inj H
  go_enter Try.func38, Try.ntmps38
  go_wp2
  go_ret
  exact ⟨by first | rfl | (simp; done) | (simp [*]; done), by repeat (first | exact Drawn0.refl _ | apply Drawn0.step)⟩
 rw [if_neg c2] at H
 have c2b0 : decide (1 ≤ a0) = false := decide_eq_false c2
 clear c2
 obtain rfl := Option.some.inj H
 go_enter Try.func38, Try.ntmps38
 go_wp2
 go_ret
 exact ⟨by first | rfl | (simp; done) | (simp [*]; done), by repeat (first | exact Drawn0.refl _ | apply Drawn0.step)⟩

/-! ### field_part: function 41: told in its three ways -/
set_option maxHeartbeats 8000000 in
set_option maxRecDepth 100000 in
theorem field_part.range (s : ByteArray) (at_ size : Int) (w : World) (h : (size < 1 ∨ 7 < size) ∨ at_ < 0) :
    Calls Try.prog 41 #[.string s, .int .i64 at_, .int .i64 size] w fun e w' => e = .returned (.tuple #[.slice none 0 0, .int .i64 4]) ∧ Below w.heap.size w w' := by
  by_cases hv : 1 ≤ size ∧ size ≤ 7
  · have ha : decide (at_ < 0) = true := decide_eq_true (by omega)
    have A1 := As (show field_valid.f size = some true by unfold field_valid.f; rw [if_pos hv.1]; simp [hv.2])
    clear h hv
    go_enter Try.func41, Try.ntmps41
    go_wp2_with (first | (go_at_call 38; (with_reducible refine (field_valid.calls size true _ A1.out).mono ?_); rintro e w' ⟨rfl, ⟨nd, rfl⟩⟩))
    go_ret2
    exact ⟨rfl, by repeat (first | (with_reducible first | exact Below.refl _ _ | apply below_alloc | apply pw_below_drewN | apply below_drew1) | exact Below.refl _ _)⟩
  have A1 := As (show field_valid.f size = some false by unfold field_valid.f; split <;> simp; omega)
  clear h hv
  go_enter Try.func41, Try.ntmps41
  go_wp2_with (first | (go_at_call 38; (with_reducible refine (field_valid.calls size false _ A1.out).mono ?_); rintro e w' ⟨rfl, ⟨nd, rfl⟩⟩))
  go_ret2
  exact ⟨rfl, by repeat (first | (with_reducible first | exact Below.refl _ _ | apply below_alloc | apply pw_below_drewN | apply below_drew1) | exact Below.refl _ _)⟩
set_option maxHeartbeats 8000000 in
set_option maxRecDepth 100000 in
theorem field_part.short (s : ByteArray) (at_ size : Int) (w : World) (h1 : 1 ≤ size) (h7 : size ≤ 7) (h0 : 0 ≤ at_) (hs : s.size ≤ 9223372036854775807) (h : (s.size : Int) < at_ ∨ (s.size : Int) - at_ < size) :
    Calls Try.prog 41 #[.string s, .int .i64 at_, .int .i64 size] w fun e w' => e = .returned (.tuple #[.slice none 0 0, .int .i64 1]) ∧ Below w.heap.size w w' := by
  have A1 := As (show field_valid.f size = some true by unfold field_valid.f; rw [if_pos h1]; simp [h7])
  have ha : decide (at_ < 0) = false := decide_eq_false (by omega)
  by_cases hb : (s.size : Int) < at_
  · have hc : decide ((s.size : Int) < at_) = true := decide_eq_true hb
    clear h hb
    go_enter Try.func41, Try.ntmps41
    go_wp2_with (first | (go_at_call 38; (with_reducible refine (field_valid.calls size true _ A1.out).mono ?_); rintro e w' ⟨rfl, ⟨nd, rfl⟩⟩))
    go_ret2
    exact ⟨rfl, by repeat (first | (with_reducible first | exact Below.refl _ _ | apply below_alloc | apply pw_below_drewN | apply below_drew1) | exact Below.refl _ _)⟩
  have hc : decide ((s.size : Int) < at_) = false := decide_eq_false hb
  have hd : decide ((s.size : Int) - at_ < size) = true := decide_eq_true (by omega)
  clear h
  go_enter Try.func41, Try.ntmps41
  go_wp2_with (first | (go_at_call 38; (with_reducible refine (field_valid.calls size true _ A1.out).mono ?_); rintro e w' ⟨rfl, ⟨nd, rfl⟩⟩))
  go_ret2
  exact ⟨rfl, by repeat (first | (with_reducible first | exact Below.refl _ _ | apply below_alloc | apply pw_below_drewN | apply below_drew1) | exact Below.refl _ _)⟩
set_option maxHeartbeats 8000000 in
set_option maxRecDepth 100000 in
theorem field_part.whole (s : ByteArray) (size : Int) (w : World) (h1 : 1 ≤ size) (h7 : size ≤ 7) (hs : (s.size : Int) = size) :
    Calls Try.prog 41 #[.string s, .int .i64 0, .int .i64 size] w fun e w' => ∃ W1, e = .returned (.tuple #[.slice (some ⟨W1.heap.size, 0, none⟩) s.size s.size, .int .i64 0]) ∧ Below w.heap.size w W1 ∧ w' = Lib.bytesWorld W1 5 s := by
  have A1 := As (show field_valid.f size = some true by unfold field_valid.f; rw [if_pos h1]; simp [h7])
  have hb : decide ((s.size : Int) < 0) = false := decide_eq_false (by omega)
  have hd : decide ((s.size : Int) < size) = false := decide_eq_false (by omega)
  have HS := As hs
  have hsz : s.size ≤ 9223372036854775807 := by omega
  have hs0 : (0 : Int) ≤ (s.size : Int) := by omega
  have h00 : decide ((s.size : Int) < 0) = false := decide_eq_false (by omega)
  clear hs
  go_enter Try.func41, Try.ntmps41
  go_wp2_with (first | (go_at_call 38; (with_reducible refine (field_valid.calls size true _ A1.out).mono ?_); rintro e w' ⟨rfl, ⟨nd, rfl⟩⟩) | ((with_reducible refine gate_dst (N := 31) rfl ?_); refine conv_at 5 rfl (N := 31) rfl 9 49 _ rfl Try.underlying9 Try.underlying49 Try.underlying5 s rfl ?_) | ((with_reducible refine gate_dst (N := 40) rfl ?_); refine cut_at 5 rfl (N := 40) rfl 49 _ _ _ _ rfl Try.underlying49 (by kernel_rfl) w.heap.size s.size (grownCap (w.drewN nd) s.size 0 5) size HS.out.symm (by have := HS.out; omega) (grownCap_ge _ s.size 0 5) rfl rfl rfl rfl ?_))
  go_ret2
  exact ⟨w.drewN nd, rfl, pw_below_drewN (Below.refl _ _) nd, rfl⟩

/-! ### field_number: function 42 -/
def field_number.l0 : Nat → Int → List Int → Int → Int → Option (Int)
 | 0, _, _, _, _ => none
 | k + 1, x3, x6, x7, x8 => if x8 < x7 then (if 0 ≤ x8 then (if x8 < (x6.length : Int) then (field_number.l0 k (Go.bits .or .i64 (wrap64 (x3 * 256)) (wrap64 (rd x6 x8))) x6 x7 (wrap64 (x8 + 1))) else (none)) else (none)) else (some x3)
def field_number.f (k : Nat) (l0 : List Int) : Option (Int) := field_number.l0 k 0 l0 (l0.length : Int) 0
theorem field_number.mono_l : ∀ k, (∀ y0 y1 y2 y3, LeO (field_number.l0 k y0 y1 y2 y3) (field_number.l0 (k + 1) y0 y1 y2 y3))
 | 0 => fun _ _ _ _ r h => by simp [field_number.l0] at h
 | k + 1 => by
  have ih0 := field_number.mono_l k
  intro y0 y1 y2 y3
  unfold field_number.l0
  repeat' first | with_reducible first | apply ih0 | apply LeO.refl | apply LeO.none | refine LeO.ite ?_ ?_ | refine LeO.bind ?_ (fun _ => ?_)
theorem field_number.mono : ∀ a0 k, LeO (field_number.f k a0) (field_number.f (k + 1) a0) := by
 intro a0 k
 have ih0 := field_number.mono_l k
 unfold field_number.f
 repeat' first | with_reducible first | apply ih0 | apply LeO.refl | apply LeO.none | refine LeO.ite ?_ ?_ | refine LeO.bind ?_ (fun _ => ?_)
set_option maxHeartbeats 8000000 in
set_option maxRecDepth 100000 in
theorem field_number.calls (k : Nat) (A0 : Option Addr) (c0 : Nat) (l0 : List Int) (r : Int) (w : World) (hr0 : Kd.C (Kd.int .u8) w A0 l0.length l0) (hc0 : l0.length ≤ c0) (h : field_number.f k l0 = some r) :
  Calls Try.prog 42 #[.slice A0 l0.length c0] w fun e w' => e = .returned (.int .i64 r) ∧ Drawn0 w w' := by
 have HR0 := As hr0
 have HC0 := As hc0
 clear hr0 hc0
 have H : (field_number.l0 k 0 l0 (l0.length : Int) 0) = some r := h
 clear h
 have H' := As H
 clear H
 go_enter Try.func42, Try.ntmps42
 go_wp2
 go_loopg [3, 8] k (fun kq v3 v8 w' => ∃ (x3_1 : Int) (x8_1 : Int), v3 = .int .i64 x3_1 ∧ v8 = .int .i64 x8_1 ∧ Aside0 (field_number.l0 kq x3_1 l0 (l0.length : Int) x8_1 = some r) ∧ Aside0 (kq ≤ k) ∧ Drawn0 w w')
 case atStart => exact ⟨(0), (0), kS, kS, H', ⟨Nat.le_refl _⟩, by repeat (first | exact Drawn0.refl _ | apply Drawn0.step)⟩
 clear H'
 obtain ⟨x3_1, x8_1, rfl, rfl, HA, HK1, ⟨m1, rfl⟩⟩ := hrel
 cases gk with
 | zero => exact absurd HA.out (by simp [field_number.l0])
 | succ k1 =>
  have H := HA.out
  clear HA
  simp only [field_number.l0] at H
  by_cases c2 : x8_1 < (l0.length : Int)
  ·rw [if_pos c2] at H
   have c2b0 : decide (x8_1 < (l0.length : Int)) = true := decide_eq_true c2
   clear c2
   by_cases c3 : 0 ≤ x8_1
   ·rw [if_pos c3] at H
    have c3b0 : decide (0 ≤ x8_1) = true := decide_eq_true c3
    clear c3
    by_cases c4 : x8_1 < (l0.length : Int)
    ·rw [if_pos c4] at H
     have c4b0 : decide (x8_1 < (l0.length : Int)) = true := decide_eq_true c4
     clear c4
     have H' := As H
     clear H
     have p102 : 0 ≤ (x8_1 : Int) := of_decide_eq_true (by first | (with_reducible assumption) | assumption)
     have q102 : x8_1 < (l0.length : Int) := of_decide_eq_true (by first | (with_reducible assumption) | assumption)
     obtain ⟨ad102, e102, hx102_0⟩ := Kd.at_int HR0.out x8_1 p102 q102
     cases e102
     replace p102 := eq_true p102
     replace q102 := eq_true q102
     go_wp2
     go_roundg k1
     case measure => have := HK1.out; omega
     case rel => exact ⟨(Go.bits .or .i64 (wrap64 (x3_1 * 256)) (wrap64 (rd l0 x8_1))), (wrap64 (x8_1 + 1)), kS, kS, H', ⟨by have := HK1.out; omega⟩, by repeat (first | exact Drawn0.refl _ | apply Drawn0.step)⟩
    rw [if_neg c4] at H
    exact absurd H (by simp)
   rw [if_neg c3] at H
   exact absurd H (by simp)
  rw [if_neg c2] at H
  have c2b0 : decide (x8_1 < (l0.length : Int)) = false := decide_eq_false c2
  clear c2
  obtain rfl := Option.some.inj H
  go_wp2
  go_ret
  exact ⟨by first | rfl | (simp; done) | (simp [*]; done), by repeat (first | exact Drawn0.refl _ | apply Drawn0.step)⟩

/-! ### field_Get: function 39 -/
def field_Get.f (k : Nat) (a0 : ByteArray) (a1 : Int) (a2 : Int) : Option (Int × Int) :=
  if a0.size ≤ 9223372036854775807 then (if (a2 < 1 ∨ 7 < a2) ∨ a1 < 0 then some (0, 4) else if (a0.size : Int) < a1 ∨ (a0.size : Int) - a1 < a2 then some (0, 1)
    else (field_number.f k (bytesOf (a0.extract a1.toNat (a1 + a2).toNat))).bind fun t => some (t, 0)) else none
theorem field_Get.mono : ∀ a0 a1 a2 k, LeO (field_Get.f k a0 a1 a2) (field_Get.f (k + 1) a0 a1 a2) := by
  intro a0 a1 a2 k
  unfold field_Get.f
  refine LeO.ite ?_ (LeO.none _)
  refine LeO.ite (LeO.refl _) ?_
  refine LeO.ite (LeO.refl _) ?_
  exact LeO.bind (field_number.mono _ k) (fun _ => LeO.refl _)
theorem field_Get.number_nil : field_number.f 1 [] = some 0 := by decide
set_option maxHeartbeats 8000000 in
set_option maxRecDepth 100000 in
theorem field_Get.calls (k : Nat) (a0 : ByteArray) (a1 : Int) (a2 : Int) (r1 : Int) (r2 : Int) (w : World) (h : field_Get.f k a0 a1 a2 = some (r1, r2)) :
    Calls Try.prog 39 #[.string a0, .int .i64 a1, .int .i64 a2] w fun e w' => e = .returned (.tuple #[.int .i64 r1, .int .i64 r2]) ∧ Below w.heap.size w w' := by
  unfold field_Get.f at h
  have hsz : a0.size ≤ 9223372036854775807 := by
    rcases Nat.lt_or_ge 9223372036854775807 a0.size with h' | h'
    · rw [if_neg (by omega)] at h; cases h
    exact h'
  rw [if_pos hsz] at h
  have hs0 : (0 : Int) ≤ (a0.size : Int) := by omega
  by_cases c1 : (a2 < 1 ∨ 7 < a2) ∨ a1 < 0
  · rw [if_pos c1] at h
    simp only [Option.some.injEq, Prod.mk.injEq] at h
    obtain ⟨rfl, rfl⟩ := h
    have HR := fun W => field_part.range a0 a1 a2 W c1
    have HRA := As HR
    clear HR
    by_cases hv : 1 ≤ a2 ∧ a2 ≤ 7
    · have ha : decide (0 ≤ a1) = false := decide_eq_false (by omega)
      have A1 := As (show field_valid.f a2 = some true by unfold field_valid.f; rw [if_pos hv.1]; simp [hv.2])
      clear hv c1
      go_enter Try.func39, Try.ntmps39
      go_wp2_with (first | (go_at_call 38; (with_reducible refine (field_valid.calls a2 true _ A1.out).mono ?_); rintro e w' ⟨rfl, ⟨nd, rfl⟩⟩) | (go_at_call 41; refine (HRA.out _).mono ?_; rintro e w1 ⟨rfl, hb⟩) | (go_at_call 42; refine (calls_of_args (args' := #[.slice none ([] : List Int).length 0]) rfl (field_number.calls 1 none 0 [] 0 _ (Kd.C_nil _ _) (Nat.zero_le _) field_Get.number_nil)).mono ?_; rintro e w2 ⟨rfl, ⟨nd2, rfl⟩⟩))
      go_ret2
      exact ⟨rfl, pw_below_drewN (below_step (pw_below_drewN (Below.refl _ _) _) hb) _⟩
    have A1 := As (show field_valid.f a2 = some false by unfold field_valid.f; split <;> simp; omega)
    clear hv c1
    go_enter Try.func39, Try.ntmps39
    go_wp2_with (first | (go_at_call 38; (with_reducible refine (field_valid.calls a2 false _ A1.out).mono ?_); rintro e w' ⟨rfl, ⟨nd, rfl⟩⟩) | (go_at_call 41; refine (HRA.out _).mono ?_; rintro e w1 ⟨rfl, hb⟩) | (go_at_call 42; refine (calls_of_args (args' := #[.slice none ([] : List Int).length 0]) rfl (field_number.calls 1 none 0 [] 0 _ (Kd.C_nil _ _) (Nat.zero_le _) field_Get.number_nil)).mono ?_; rintro e w2 ⟨rfl, ⟨nd2, rfl⟩⟩))
    go_ret2
    exact ⟨rfl, pw_below_drewN (below_step (pw_below_drewN (Below.refl _ _) _) hb) _⟩
  rw [if_neg c1] at h
  have A1 := As (show field_valid.f a2 = some true by unfold field_valid.f; rw [if_pos (by omega)]; simp; omega)
  have ha : decide (0 ≤ a1) = true := decide_eq_true (by omega)
  by_cases c2 : (a0.size : Int) < a1 ∨ (a0.size : Int) - a1 < a2
  · rw [if_pos c2] at h
    simp only [Option.some.injEq, Prod.mk.injEq] at h
    obtain ⟨rfl, rfl⟩ := h
    have HR := fun W => field_part.short a0 a1 a2 W (by omega) (by omega) (by omega) hsz c2
    have HRA := As HR
    clear HR
    by_cases hb : a1 ≤ (a0.size : Int)
    · have hc : decide (a1 ≤ (a0.size : Int)) = true := decide_eq_true hb
      have hd : decide (a2 ≤ (a0.size : Int) - a1) = false := decide_eq_false (by omega)
      have ha1 : 0 ≤ a1 := by omega
      clear c1 c2
      go_enter Try.func39, Try.ntmps39
      go_wp2_with (first | (go_at_call 38; (with_reducible refine (field_valid.calls a2 true _ A1.out).mono ?_); rintro e w' ⟨rfl, ⟨nd, rfl⟩⟩) | (go_at_call 41; refine (HRA.out _).mono ?_; rintro e w1 ⟨rfl, hb⟩) | (go_at_call 42; refine (calls_of_args (args' := #[.slice none ([] : List Int).length 0]) rfl (field_number.calls 1 none 0 [] 0 _ (Kd.C_nil _ _) (Nat.zero_le _) field_Get.number_nil)).mono ?_; rintro e w2 ⟨rfl, ⟨nd2, rfl⟩⟩))
      go_ret2
      exact ⟨rfl, pw_below_drewN (below_step (pw_below_drewN (Below.refl _ _) _) hb) _⟩
    have hc : decide (a1 ≤ (a0.size : Int)) = false := decide_eq_false hb
    clear c1 c2 hb
    go_enter Try.func39, Try.ntmps39
    go_wp2_with (first | (go_at_call 38; (with_reducible refine (field_valid.calls a2 true _ A1.out).mono ?_); rintro e w' ⟨rfl, ⟨nd, rfl⟩⟩) | (go_at_call 41; refine (HRA.out _).mono ?_; rintro e w1 ⟨rfl, hb⟩) | (go_at_call 42; refine (calls_of_args (args' := #[.slice none ([] : List Int).length 0]) rfl (field_number.calls 1 none 0 [] 0 _ (Kd.C_nil _ _) (Nat.zero_le _) field_Get.number_nil)).mono ?_; rintro e w2 ⟨rfl, ⟨nd2, rfl⟩⟩))
    go_ret2
    exact ⟨rfl, pw_below_drewN (below_step (pw_below_drewN (Below.refl _ _) _) hb) _⟩
  rw [if_neg c2] at h
  replace h := Option.bind_eq_some_iff.mp h
  obtain ⟨t, A20, h⟩ := h
  simp only [Option.some.injEq, Prod.mk.injEq] at h
  obtain ⟨rfl, rfl⟩ := h
  have A2 := As A20
  clear A20
  have hc : decide (a1 ≤ (a0.size : Int)) = true := decide_eq_true (by omega)
  have hd : decide (a2 ≤ (a0.size : Int) - a1) = true := decide_eq_true (by omega)
  have h1 : 0 ≤ a1 := by omega
  have h2 : a1 ≤ a1 + a2 := by omega
  have h3 : a1 + a2 ≤ (a0.size : Int) := by omega
  have h4 : a1 ≤ (a0.size : Int) := by omega
  have HX := As (show (((a0.extract a1.toNat (a1 + a2).toNat).size : Nat) : Int) = a2 by rw [ByteArray.size_extract]; omega)
  have h5 : 1 ≤ a2 := by omega
  have h6 : a2 ≤ 7 := by omega
  have HW := As (fun W => field_part.whole (a0.extract a1.toNat (a1 + a2).toNat) a2 W (by omega) (by omega) HX.out)
  clear c1 c2
  go_enter Try.func39, Try.ntmps39
  go_wp2_with (first | (go_at_call 38; (with_reducible refine (field_valid.calls a2 true _ A1.out).mono ?_); rintro e w' ⟨rfl, ⟨nd, rfl⟩⟩) | (go_at_call 41; refine (HW.out _).mono ?_; rintro e w1 ⟨W1, rfl, hb, rfl⟩) | (go_at_call 42; refine (calls_of_args (args' := #[.slice (some ⟨W1.heap.size, 0, none⟩) (bytesOf (a0.extract a1.toNat (a1 + a2).toNat)).length (a0.extract a1.toNat (a1 + a2).toNat).size]) (by rw [bytesOf_length, show (a0.extract a1.toNat (a1 + a2).toNat).size = (a1 + a2).toNat - a1.toNat from by rw [ByteArray.size_extract]; omega]) (field_number.calls k _ _ (bytesOf (a0.extract a1.toNat (a1 + a2).toNat)) t _ (Kd.C_of_reads (d := (0 : Int)) (h1 := fun _ => rfl) (by rw [bytesOf_length]; exact bytes_reads W1 5 _ (by have := HX.out; omega))) (by rw [bytesOf_length]; exact Nat.le_refl _) A2.out)).mono ?_; rintro e w2 ⟨rfl, ⟨nd2, rfl⟩⟩))
  go_ret2
  exact ⟨rfl, pw_below_drewN (bytes_below (below_step (pw_below_drewN (Below.refl _ _) _) hb) (below_size (below_step (pw_below_drewN (Below.refl _ _) _) hb)) 5 _) _⟩

/-! ### field_GetLittle: function 40 -/
def field_GetLittle.f (k : Nat) (a0 : ByteArray) (a1 : Int) (a2 : Int) : Option (Int × Int) :=
  if a0.size ≤ 9223372036854775807 then (if (a2 < 1 ∨ 7 < a2) ∨ a1 < 0 then some (0, 4) else if (a0.size : Int) < a1 ∨ (a0.size : Int) - a1 < a2 then some (0, 1)
    else (field_number.f k (bytesOf (a0.extract a1.toNat (a1 + a2).toNat)).reverse).bind fun t => some (t, 0)) else none
theorem field_GetLittle.mono : ∀ a0 a1 a2 k, LeO (field_GetLittle.f k a0 a1 a2) (field_GetLittle.f (k + 1) a0 a1 a2) := by
  intro a0 a1 a2 k
  unfold field_GetLittle.f
  refine LeO.ite ?_ (LeO.none _)
  refine LeO.ite (LeO.refl _) ?_
  refine LeO.ite (LeO.refl _) ?_
  exact LeO.bind (field_number.mono _ k) (fun _ => LeO.refl _)
set_option maxHeartbeats 8000000 in
set_option maxRecDepth 100000 in
theorem field_GetLittle.calls (k : Nat) (a0 : ByteArray) (a1 : Int) (a2 : Int) (r1 : Int) (r2 : Int) (w : World) (h : field_GetLittle.f k a0 a1 a2 = some (r1, r2)) :
    Calls Try.prog 40 #[.string a0, .int .i64 a1, .int .i64 a2] w fun e w' => e = .returned (.tuple #[.int .i64 r1, .int .i64 r2]) ∧ Below w.heap.size w w' := by
  unfold field_GetLittle.f at h
  have hsz : a0.size ≤ 9223372036854775807 := by
    rcases Nat.lt_or_ge 9223372036854775807 a0.size with h' | h'
    · rw [if_neg (by omega)] at h; cases h
    exact h'
  rw [if_pos hsz] at h
  have hs0 : (0 : Int) ≤ (a0.size : Int) := by omega
  by_cases c1 : (a2 < 1 ∨ 7 < a2) ∨ a1 < 0
  · rw [if_pos c1] at h
    simp only [Option.some.injEq, Prod.mk.injEq] at h
    obtain ⟨rfl, rfl⟩ := h
    have HR := fun W => field_part.range a0 a1 a2 W c1
    have HRA := As HR
    clear HR
    by_cases hv : 1 ≤ a2 ∧ a2 ≤ 7
    · have ha : decide (0 ≤ a1) = false := decide_eq_false (by omega)
      have A1 := As (show field_valid.f a2 = some true by unfold field_valid.f; rw [if_pos hv.1]; simp [hv.2])
      clear hv c1
      go_enter Try.func40, Try.ntmps40
      go_wp2_with (first | (go_at_call 38; (with_reducible refine (field_valid.calls a2 true _ A1.out).mono ?_); rintro e w' ⟨rfl, ⟨nd, rfl⟩⟩) | (go_at_call 41; refine (HRA.out _).mono ?_; rintro e w1 ⟨rfl, hb⟩) | (go_at_call 34; refine (rev_empty _).mono ?_; rintro e w3 ⟨rfl, rfl⟩) | (go_at_call 42; refine (calls_of_args (args' := #[.slice none ([] : List Int).length 0]) rfl (field_number.calls 1 none 0 [] 0 _ (Kd.C_nil _ _) (Nat.zero_le _) (by decide))).mono ?_; rintro e w2 ⟨rfl, ⟨nd2, rfl⟩⟩))
      go_ret2
      exact ⟨rfl, pw_below_drewN (below_step (pw_below_drewN (Below.refl _ _) _) hb) _⟩
    have A1 := As (show field_valid.f a2 = some false by unfold field_valid.f; split <;> simp; omega)
    clear hv c1
    go_enter Try.func40, Try.ntmps40
    go_wp2_with (first | (go_at_call 38; (with_reducible refine (field_valid.calls a2 false _ A1.out).mono ?_); rintro e w' ⟨rfl, ⟨nd, rfl⟩⟩) | (go_at_call 41; refine (HRA.out _).mono ?_; rintro e w1 ⟨rfl, hb⟩) | (go_at_call 34; refine (rev_empty _).mono ?_; rintro e w3 ⟨rfl, rfl⟩) | (go_at_call 42; refine (calls_of_args (args' := #[.slice none ([] : List Int).length 0]) rfl (field_number.calls 1 none 0 [] 0 _ (Kd.C_nil _ _) (Nat.zero_le _) (by decide))).mono ?_; rintro e w2 ⟨rfl, ⟨nd2, rfl⟩⟩))
    go_ret2
    exact ⟨rfl, pw_below_drewN (below_step (pw_below_drewN (Below.refl _ _) _) hb) _⟩
  rw [if_neg c1] at h
  have A1 := As (show field_valid.f a2 = some true by unfold field_valid.f; rw [if_pos (by omega)]; simp; omega)
  have ha : decide (0 ≤ a1) = true := decide_eq_true (by omega)
  by_cases c2 : (a0.size : Int) < a1 ∨ (a0.size : Int) - a1 < a2
  · rw [if_pos c2] at h
    simp only [Option.some.injEq, Prod.mk.injEq] at h
    obtain ⟨rfl, rfl⟩ := h
    have HR := fun W => field_part.short a0 a1 a2 W (by omega) (by omega) (by omega) hsz c2
    have HRA := As HR
    clear HR
    by_cases hb : a1 ≤ (a0.size : Int)
    · have hc : decide (a1 ≤ (a0.size : Int)) = true := decide_eq_true hb
      have hd : decide (a2 ≤ (a0.size : Int) - a1) = false := decide_eq_false (by omega)
      have ha1 : 0 ≤ a1 := by omega
      clear c1 c2
      go_enter Try.func40, Try.ntmps40
      go_wp2_with (first | (go_at_call 38; (with_reducible refine (field_valid.calls a2 true _ A1.out).mono ?_); rintro e w' ⟨rfl, ⟨nd, rfl⟩⟩) | (go_at_call 41; refine (HRA.out _).mono ?_; rintro e w1 ⟨rfl, hb⟩) | (go_at_call 34; refine (rev_empty _).mono ?_; rintro e w3 ⟨rfl, rfl⟩) | (go_at_call 42; refine (calls_of_args (args' := #[.slice none ([] : List Int).length 0]) rfl (field_number.calls 1 none 0 [] 0 _ (Kd.C_nil _ _) (Nat.zero_le _) (by decide))).mono ?_; rintro e w2 ⟨rfl, ⟨nd2, rfl⟩⟩))
      go_ret2
      exact ⟨rfl, pw_below_drewN (below_step (pw_below_drewN (Below.refl _ _) _) hb) _⟩
    have hc : decide (a1 ≤ (a0.size : Int)) = false := decide_eq_false hb
    clear c1 c2 hb
    go_enter Try.func40, Try.ntmps40
    go_wp2_with (first | (go_at_call 38; (with_reducible refine (field_valid.calls a2 true _ A1.out).mono ?_); rintro e w' ⟨rfl, ⟨nd, rfl⟩⟩) | (go_at_call 41; refine (HRA.out _).mono ?_; rintro e w1 ⟨rfl, hb⟩) | (go_at_call 34; refine (rev_empty _).mono ?_; rintro e w3 ⟨rfl, rfl⟩) | (go_at_call 42; refine (calls_of_args (args' := #[.slice none ([] : List Int).length 0]) rfl (field_number.calls 1 none 0 [] 0 _ (Kd.C_nil _ _) (Nat.zero_le _) (by decide))).mono ?_; rintro e w2 ⟨rfl, ⟨nd2, rfl⟩⟩))
    go_ret2
    exact ⟨rfl, pw_below_drewN (below_step (pw_below_drewN (Below.refl _ _) _) hb) _⟩
  rw [if_neg c2] at h
  replace h := Option.bind_eq_some_iff.mp h
  obtain ⟨t, A20, h⟩ := h
  simp only [Option.some.injEq, Prod.mk.injEq] at h
  obtain ⟨rfl, rfl⟩ := h
  have A2 := As A20
  clear A20
  have hc : decide (a1 ≤ (a0.size : Int)) = true := decide_eq_true (by omega)
  have hd : decide (a2 ≤ (a0.size : Int) - a1) = true := decide_eq_true (by omega)
  have h1 : 0 ≤ a1 := by omega
  have h2 : a1 ≤ a1 + a2 := by omega
  have h3 : a1 + a2 ≤ (a0.size : Int) := by omega
  have h4 : a1 ≤ (a0.size : Int) := by omega
  have HX := As (show (((a0.extract a1.toNat (a1 + a2).toNat).size : Nat) : Int) = a2 by rw [ByteArray.size_extract]; omega)
  have h5 : 1 ≤ a2 := by omega
  have h6 : a2 ≤ 7 := by omega
  have HW := As (fun W => field_part.whole (a0.extract a1.toNat (a1 + a2).toNat) a2 W (by omega) (by omega) HX.out)
  clear c1 c2
  go_enter Try.func40, Try.ntmps40
  go_wp2_with (first | (go_at_call 38; (with_reducible refine (field_valid.calls a2 true _ A1.out).mono ?_); rintro e w' ⟨rfl, ⟨nd, rfl⟩⟩) | (go_at_call 41; refine (HW.out _).mono ?_; rintro e w1 ⟨W1, rfl, hb, rfl⟩) | (go_at_call 34; refine (calls_of_args (args' := #[.slice (some ⟨W1.heap.size, 0, none⟩) (a0.extract a1.toNat (a1 + a2).toNat).size (a0.extract a1.toNat (a1 + a2).toNat).size]) (by rw [show (a0.extract a1.toNat (a1 + a2).toNat).size = (a1 + a2).toNat - a1.toNat from by rw [ByteArray.size_extract]; omega]) (rev_calls W1.heap.size (a0.extract a1.toNat (a1 + a2).toNat).size (a0.extract a1.toNat (a1 + a2).toNat).size (bytesOf (a0.extract a1.toNat (a1 + a2).toNat)) (Lib.bytesWorld W1 5 (a0.extract a1.toNat (a1 + a2).toNat)) (bytes_holds W1 5 (a0.extract a1.toNat (a1 + a2).toNat) (by have := HX.out; omega)) (bytesOf_length _) (by have := HX.out; omega))).mono ?_; rintro e w2 ⟨rfl, hr, hb2⟩; have HRR := As hr; clear hr; have HB2 := As hb2; clear hb2) | (go_at_call 42; refine (calls_of_args (args' := #[.slice (some ⟨W1.heap.size, 0, none⟩) (bytesOf (a0.extract a1.toNat (a1 + a2).toNat)).reverse.length (a0.extract a1.toNat (a1 + a2).toNat).size]) (by rw [List.length_reverse, bytesOf_length, show (a0.extract a1.toNat (a1 + a2).toNat).size = (a1 + a2).toNat - a1.toNat from by rw [ByteArray.size_extract]; omega]) (field_number.calls k _ _ (bytesOf (a0.extract a1.toNat (a1 + a2).toNat)).reverse t _ (Kd.C_of_reads (d := (0 : Int)) (h1 := fun _ => rfl) (by rw [List.length_reverse, bytesOf_length]; exact HRR.out)) (by rw [List.length_reverse, bytesOf_length]; exact Nat.le_refl _) A2.out)).mono ?_; rintro e w3 ⟨rfl, ⟨nd2, rfl⟩⟩))
  go_ret2
  exact ⟨rfl, pw_below_drewN ((bytes_below (below_step (pw_below_drewN (Below.refl _ _) _) hb) (below_size (below_step (pw_below_drewN (Below.refl _ _) _) hb)) 5 _).trans (HB2.out _ (below_size (below_step (pw_below_drewN (Below.refl _ _) _) hb)))) _⟩

/-! ### capture_Reader_number: function 35 -/
def capture_Reader_number.f (k : Nat) (s0_0 : ByteArray) (s0_1 : Int) (s0_2 : Bool) (s0_3 : Bool) (s0_4 : Int) (s0_5 : Int) (s0_6 : Bool) (a1 : Int) (a2 : Int) : Option (Int × ByteArray × Int × Bool × Bool × Int × Int × Bool) := if s0_3 = true then ((field_GetLittle.f k s0_0 a1 a2).bind fun bt107 => (some (bt107.1, s0_0, s0_1, s0_2, s0_3, s0_4, s0_5, s0_6))) else ((field_Get.f k s0_0 a1 a2).bind fun bt109 => (some (bt109.1, s0_0, s0_1, s0_2, s0_3, s0_4, s0_5, s0_6)))
theorem capture_Reader_number.mono : ∀ a0 a1 a2 a3 a4 a5 a6 a7 a8 k, LeO (capture_Reader_number.f k a0 a1 a2 a3 a4 a5 a6 a7 a8) (capture_Reader_number.f (k + 1) a0 a1 a2 a3 a4 a5 a6 a7 a8) := by
 intro a0 a1 a2 a3 a4 a5 a6 a7 a8 k
 unfold capture_Reader_number.f
 repeat' first | with_reducible first | apply field_Get.mono | apply field_GetLittle.mono | apply LeO.refl | apply LeO.none | refine LeO.ite ?_ ?_ | refine LeO.bind ?_ (fun _ => ?_)
set_option maxHeartbeats 8000000 in
set_option maxRecDepth 100000 in
theorem capture_Reader_number.calls (k : Nat) (g : Nat) (s0_0 : ByteArray) (s0_1 : Int) (s0_2 : Bool) (s0_3 : Bool) (s0_4 : Int) (s0_5 : Int) (s0_6 : Bool) (a1 : Int) (a2 : Int) (r1 : Int) (r2 : ByteArray) (r3 : Int) (r4 : Bool) (r5 : Bool) (r6 : Int) (r7 : Int) (r8 : Bool) (w0 w : World) (hI : IsS47 w0 w g s0_0 s0_1 s0_2 s0_3 s0_4 s0_5 s0_6) (hB : Below w0.heap.size w0 w) (h : capture_Reader_number.f k s0_0 s0_1 s0_2 s0_3 s0_4 s0_5 s0_6 a1 a2 = some (r1, r2, r3, r4, r5, r6, r7, r8)) :
  Calls Try.prog 35 #[.pointer (some ⟨g, 0, none⟩), .int .i64 a1, .int .i64 a2] w fun e w' => e = .returned (.int .i64 r1) ∧ IsS47 w0 w' g r2 r3 r4 r5 r6 r7 r8 ∧ Below w0.heap.size w0 w' ∧ KeepBut w w' g none := by
 have HI0 := As hI
 have HK := As (KeepBut.refl w g none)
 have HL := As hB.size
 clear hI
 have HW0 := As hB.size
 have HB := As hB
 clear hB
 have H : (if s0_3 = true then ((field_GetLittle.f k s0_0 a1 a2).bind fun bt107 => (some (bt107.1, s0_0, s0_1, s0_2, s0_3, s0_4, s0_5, s0_6))) else ((field_Get.f k s0_0 a1 a2).bind fun bt109 => (some (bt109.1, s0_0, s0_1, s0_2, s0_3, s0_4, s0_5, s0_6)))) = some (r1, r2, r3, r4, r5, r6, r7, r8) := h
 clear h
 by_cases c4 : s0_3 = true
 ·subst c4
  have H1 : ((field_GetLittle.f k s0_0 a1 a2).bind fun bt107 => (some (bt107.1, s0_0, s0_1, s0_2, true, s0_4, s0_5, s0_6))) = some (r1, r2, r3, r4, r5, r6, r7, r8) := by rw [if_pos rfl] at H; exact H
  clear H
  have H := H1
  clear H1
  replace H := Option.bind_eq_some_iff.mp H
  obtain ⟨⟨t107, t108⟩, A50, H⟩ := H
  replace H : (some (t107, s0_0, s0_1, s0_2, true, s0_4, s0_5, s0_6)) = some (r1, r2, r3, r4, r5, r6, r7, r8) := H
  have A5 := As A50
  clear A50
  simp only [Option.some.injEq, Prod.mk.injEq] at H
  obtain ⟨rfl, rfl, rfl, rfl, rfl, rfl, rfl, rfl⟩ := H
  obtain ⟨HGz6, hgz6⟩ := HI0.out
  have hcz6_0 := cellS47_0 HGz6
  have hcz6_1 := cellS47_1 HGz6
  have hcz6_2 := cellS47_2 HGz6
  have hcz6_3 := cellS47_3 HGz6
  have hcz6_4 := cellS47_4 HGz6
  have hcz6_5 := cellS47_5 HGz6
  have hcz6_6 := cellS47_6 HGz6
  have hfz6_0 := blk_frozen HGz6 0
  have hfz6_1 := blk_frozen HGz6 1
  have hfz6_2 := blk_frozen HGz6 2
  have hfz6_3 := blk_frozen HGz6 3
  have hfz6_4 := blk_frozen HGz6 4
  have hfz6_5 := blk_frozen HGz6 5
  have hfz6_6 := blk_frozen HGz6 6
  clear HGz6 hgz6
  go_enter Try.func35, Try.ntmps35
  go_wp2_with (first | ((refine gate_value 40 rfl rfl ?_); refine goesV_ (some 22) rfl rfl Try.func40 (by kernel_rfl) rfl #[.string s0_0, .int .i64 a1, .int .i64 a2] rfl rfl kA ?_; (with_reducible refine (field_GetLittle.calls k s0_0 a1 a2 t107 t108 _ A5.out).mono ?_); rintro e w7 ⟨rfl, hb⟩; refine ⟨_, rfl, ?_⟩; replace HK := As (KeepBut.trans (by repeat (first | (with_reducible first | exact HK.out | apply KeepBut.set_ | apply keep_drewN | apply keep_drew | apply keep_alloc) | exact HK.out)) (KeepBut.of_below hb g none) (.inl rfl)); replace HB := As (below_step (kB1 HB.out (IsS47.ge HI0.out)) hb); replace HI0 := As (IsS47.below (by repeat (first | (with_reducible first | exact HI0.out | apply IsS47.alloc | apply IsS47.drewN | apply IsS47.drew | apply IsS47.set_0 | apply IsS47.set_1 | apply IsS47.set_2 | apply IsS47.set_3 | apply IsS47.set_4 | apply IsS47.set_5 | apply IsS47.set_6) | exact HI0.out)) hb); (try clear hb); (try clear hb2)))
  go_ret
  exact ⟨kE, by repeat (first | (with_reducible first | exact HI0.out | apply IsS47.alloc | apply IsS47.drewN | apply IsS47.drew | apply IsS47.set_0 | apply IsS47.set_1 | apply IsS47.set_2 | apply IsS47.set_3 | apply IsS47.set_4 | apply IsS47.set_5 | apply IsS47.set_6) | exact HI0.out), by exact kB1 HB.out (IsS47.ge HI0.out), by repeat (first | (with_reducible first | exact HK.out | apply KeepBut.set_ | apply keep_drewN | apply keep_drew | apply keep_alloc) | exact HK.out)⟩
 replace c4 := Bool.eq_false_iff.mpr c4
 subst c4
 have H1 : ((field_Get.f k s0_0 a1 a2).bind fun bt109 => (some (bt109.1, s0_0, s0_1, s0_2, false, s0_4, s0_5, s0_6))) = some (r1, r2, r3, r4, r5, r6, r7, r8) := by rw [if_neg (show ¬ (false = true) by decide)] at H; exact H
 clear H
 have H := H1
 clear H1
 replace H := Option.bind_eq_some_iff.mp H
 obtain ⟨⟨t109, t110⟩, A80, H⟩ := H
 replace H : (some (t109, s0_0, s0_1, s0_2, false, s0_4, s0_5, s0_6)) = some (r1, r2, r3, r4, r5, r6, r7, r8) := H
 have A8 := As A80
 clear A80
 simp only [Option.some.injEq, Prod.mk.injEq] at H
 obtain ⟨rfl, rfl, rfl, rfl, rfl, rfl, rfl, rfl⟩ := H
 obtain ⟨HGz9, hgz9⟩ := HI0.out
 have hcz9_0 := cellS47_0 HGz9
 have hcz9_1 := cellS47_1 HGz9
 have hcz9_2 := cellS47_2 HGz9
 have hcz9_3 := cellS47_3 HGz9
 have hcz9_4 := cellS47_4 HGz9
 have hcz9_5 := cellS47_5 HGz9
 have hcz9_6 := cellS47_6 HGz9
 have hfz9_0 := blk_frozen HGz9 0
 have hfz9_1 := blk_frozen HGz9 1
 have hfz9_2 := blk_frozen HGz9 2
 have hfz9_3 := blk_frozen HGz9 3
 have hfz9_4 := blk_frozen HGz9 4
 have hfz9_5 := blk_frozen HGz9 5
 have hfz9_6 := blk_frozen HGz9 6
 clear HGz9 hgz9
 go_enter Try.func35, Try.ntmps35
 go_wp2_with (first | ((refine gate_value 39 rfl rfl ?_); refine goesV_ (some 22) rfl rfl Try.func39 (by kernel_rfl) rfl #[.string s0_0, .int .i64 a1, .int .i64 a2] rfl rfl kA ?_; (with_reducible refine (field_Get.calls k s0_0 a1 a2 t109 t110 _ A8.out).mono ?_); rintro e w10 ⟨rfl, hb⟩; refine ⟨_, rfl, ?_⟩; replace HK := As (KeepBut.trans (by repeat (first | (with_reducible first | exact HK.out | apply KeepBut.set_ | apply keep_drewN | apply keep_drew | apply keep_alloc) | exact HK.out)) (KeepBut.of_below hb g none) (.inl rfl)); replace HB := As (below_step (kB1 HB.out (IsS47.ge HI0.out)) hb); replace HI0 := As (IsS47.below (by repeat (first | (with_reducible first | exact HI0.out | apply IsS47.alloc | apply IsS47.drewN | apply IsS47.drew | apply IsS47.set_0 | apply IsS47.set_1 | apply IsS47.set_2 | apply IsS47.set_3 | apply IsS47.set_4 | apply IsS47.set_5 | apply IsS47.set_6) | exact HI0.out)) hb); (try clear hb); (try clear hb2)))
 go_ret
 exact ⟨kE, by repeat (first | (with_reducible first | exact HI0.out | apply IsS47.alloc | apply IsS47.drewN | apply IsS47.drew | apply IsS47.set_0 | apply IsS47.set_1 | apply IsS47.set_2 | apply IsS47.set_3 | apply IsS47.set_4 | apply IsS47.set_5 | apply IsS47.set_6) | exact HI0.out), by exact kB1 HB.out (IsS47.ge HI0.out), by repeat (first | (with_reducible first | exact HK.out | apply KeepBut.set_ | apply keep_drewN | apply keep_drew | apply keep_alloc) | exact HK.out)⟩

/-! ### capture_Reader_skip: function 36 -/
def capture_Reader_skip.f (s0_0 : ByteArray) (s0_1 : Int) (s0_2 : Bool) (s0_3 : Bool) (s0_4 : Int) (s0_5 : Int) (s0_6 : Bool) (a1 : Int) : Option (ByteArray × Int × Bool × Bool × Int × Int × Bool) := if 0 ≤ a1 then (if a1 ≤ (s0_0.size : Int) then (some (s0_0.extract (a1 : Int).toNat s0_0.size, wrap64 (s0_1 + a1), s0_2, s0_3, s0_4, s0_5, s0_6)) else (none)) else (none)
set_option maxHeartbeats 8000000 in
set_option maxRecDepth 100000 in
theorem capture_Reader_skip.calls (g : Nat) (s0_0 : ByteArray) (s0_1 : Int) (s0_2 : Bool) (s0_3 : Bool) (s0_4 : Int) (s0_5 : Int) (s0_6 : Bool) (a1 : Int) (r1 : ByteArray) (r2 : Int) (r3 : Bool) (r4 : Bool) (r5 : Int) (r6 : Int) (r7 : Bool) (w0 w : World) (hI : IsS47 w0 w g s0_0 s0_1 s0_2 s0_3 s0_4 s0_5 s0_6) (hB : Below w0.heap.size w0 w) (h : capture_Reader_skip.f s0_0 s0_1 s0_2 s0_3 s0_4 s0_5 s0_6 a1 = some (r1, r2, r3, r4, r5, r6, r7)) :
  Calls Try.prog 36 #[.pointer (some ⟨g, 0, none⟩), .int .i64 a1] w fun e w' => e = .returned (.tuple #[]) ∧ IsS47 w0 w' g r1 r2 r3 r4 r5 r6 r7 ∧ Below w0.heap.size w0 w' ∧ KeepBut w w' g none := by
 have HI0 := As hI
 have HK := As (KeepBut.refl w g none)
 have HL := As hB.size
 clear hI
 have HW0 := As hB.size
 have HB := As hB
 clear hB
 have H : (if 0 ≤ a1 then (if a1 ≤ (s0_0.size : Int) then (some (s0_0.extract (a1 : Int).toNat s0_0.size, wrap64 (s0_1 + a1), s0_2, s0_3, s0_4, s0_5, s0_6)) else (none)) else (none)) = some (r1, r2, r3, r4, r5, r6, r7) := h
 clear h
 by_cases c3 : 0 ≤ a1
 ·rw [if_pos c3] at H
  have c3b0 := eq_true c3
  have c3b1 : decide (0 ≤ a1) = true := decide_eq_true c3
  clear c3
  by_cases c4 : a1 ≤ (s0_0.size : Int)
  ·rw [if_pos c4] at H
   have c4b0 := eq_true c4
   have c4b1 : decide (a1 ≤ (s0_0.size : Int)) = true := decide_eq_true c4
   clear c4
   simp only [Option.some.injEq, Prod.mk.injEq] at H
   obtain ⟨rfl, rfl, rfl, rfl, rfl, rfl, rfl⟩ := H
   obtain ⟨HGz5, hgz5⟩ := HI0.out
   have hcz5_0 := cellS47_0 HGz5
   have hcz5_1 := cellS47_1 HGz5
   have hcz5_2 := cellS47_2 HGz5
   have hcz5_3 := cellS47_3 HGz5
   have hcz5_4 := cellS47_4 HGz5
   have hcz5_5 := cellS47_5 HGz5
   have hcz5_6 := cellS47_6 HGz5
   have hfz5_0 := blk_frozen HGz5 0
   have hfz5_1 := blk_frozen HGz5 1
   have hfz5_2 := blk_frozen HGz5 2
   have hfz5_3 := blk_frozen HGz5 3
   have hfz5_4 := blk_frozen HGz5 4
   have hfz5_5 := blk_frozen HGz5 5
   have hfz5_6 := blk_frozen HGz5 6
   clear HGz5 hgz5
   go_enter Try.func36, Try.ntmps36
   go_wp2
   first | go_end0 | ((try simp only [Exit.inBlock, Exit.then]); refine bodyPost_ret (results_none rfl _ _ _) rfl ?_)
   exact ⟨kE, by repeat (first | (with_reducible first | exact HI0.out | apply IsS47.alloc | apply IsS47.drewN | apply IsS47.drew | apply IsS47.set_0 | apply IsS47.set_1 | apply IsS47.set_2 | apply IsS47.set_3 | apply IsS47.set_4 | apply IsS47.set_5 | apply IsS47.set_6) | exact HI0.out), by exact kB1 HB.out (IsS47.ge HI0.out), by repeat (first | (with_reducible first | exact HK.out | apply KeepBut.set_ | apply keep_drewN | apply keep_drew | apply keep_alloc) | exact HK.out)⟩
  rw [if_neg c4] at H
  exact absurd H (by simp)
 rw [if_neg c3] at H
 exact absurd H (by simp)

/-! ### capture_Reader_header: function 29 -/
def capture_Reader_header.j0 : Nat → ByteArray → Int → Bool → Bool → Int → Int → Bool → Option (Bool × Int × ByteArray × Int × Bool × Bool × Int × Int × Bool)
 | 0, _, _, _, _, _, _, _ => none
 | k + 1, x1000, x1001, x1002, x1003, x1004, x1005, x1006 => (capture_Reader_number.f k x1000 x1001 x1002 x1003 x1004 x1005 x1006 0 4).bind fun bt119 => (if bt119.1 = 2712847316 then ((capture_Reader_number.f k bt119.2.1 bt119.2.2.1 bt119.2.2.2.1 bt119.2.2.2.2.1 bt119.2.2.2.2.2.1 bt119.2.2.2.2.2.2.1 bt119.2.2.2.2.2.2.2 4 2).bind fun bt127 => (if bt127.1 = 2 then ((capture_Reader_number.f k bt127.2.1 bt127.2.2.1 bt127.2.2.2.1 bt127.2.2.2.2.1 bt127.2.2.2.2.2.1 bt127.2.2.2.2.2.2.1 bt127.2.2.2.2.2.2.2 6 2).bind fun bt135 => (if bt135.1 = 4 then ((capture_Reader_number.f k bt135.2.1 bt135.2.2.1 bt135.2.2.2.1 bt135.2.2.2.2.1 bt135.2.2.2.2.2.1 bt135.2.2.2.2.2.2.1 bt135.2.2.2.2.2.2.2 20 4).bind fun bt143 => (if bt143.1 = 1 then ((capture_Reader_skip.f bt143.2.1 bt143.2.2.1 bt143.2.2.2.1 bt143.2.2.2.2.1 bt143.2.2.2.2.2.1 bt143.2.2.2.2.2.2.1 bt143.2.2.2.2.2.2.2 24).bind fun bt151 => (some (true, 0, bt151.1, bt151.2.1, true, bt151.2.2.2.1, bt151.2.2.2.2.1, bt151.2.2.2.2.2.1, bt151.2.2.2.2.2.2))) else (some (false, 2, bt143.2.1, bt143.2.2.1, bt143.2.2.2.1, bt143.2.2.2.2.1, bt143.2.2.2.2.2.1, bt143.2.2.2.2.2.2.1, bt143.2.2.2.2.2.2.2)))) else (some (false, 2, bt135.2.1, bt135.2.2.1, bt135.2.2.2.1, bt135.2.2.2.2.1, bt135.2.2.2.2.2.1, bt135.2.2.2.2.2.2.1, bt135.2.2.2.2.2.2.2)))) else (some (false, 2, bt127.2.1, bt127.2.2.1, bt127.2.2.2.1, bt127.2.2.2.2.1, bt127.2.2.2.2.2.1, bt127.2.2.2.2.2.2.1, bt127.2.2.2.2.2.2.2)))) else (some (false, 2, bt119.2.1, bt119.2.2.1, bt119.2.2.2.1, bt119.2.2.2.2.1, bt119.2.2.2.2.2.1, bt119.2.2.2.2.2.2.1, bt119.2.2.2.2.2.2.2)))
def capture_Reader_header.f (k : Nat) (s0_0 : ByteArray) (s0_1 : Int) (s0_2 : Bool) (s0_3 : Bool) (s0_4 : Int) (s0_5 : Int) (s0_6 : Bool) : Option (Bool × Int × ByteArray × Int × Bool × Bool × Int × Int × Bool) := if (s0_0.size : Int) < 24 then (some (false, 0, s0_0, s0_1, s0_2, s0_3, s0_4, s0_5, s0_6)) else ((capture_Reader_number.f k s0_0 s0_1 s0_2 s0_3 s0_4 s0_5 s0_6 0 4).bind fun bt111 => (if bt111.1 = 2712847316 then (capture_Reader_header.j0 k bt111.2.1 bt111.2.2.1 bt111.2.2.2.1 bt111.2.2.2.2.1 bt111.2.2.2.2.2.1 bt111.2.2.2.2.2.2.1 bt111.2.2.2.2.2.2.2) else (capture_Reader_header.j0 k bt111.2.1 bt111.2.2.1 bt111.2.2.2.1 true bt111.2.2.2.2.2.1 bt111.2.2.2.2.2.2.1 bt111.2.2.2.2.2.2.2)))
theorem capture_Reader_header.mono_l : ∀ k, (∀ y0 y1 y2 y3 y4 y5 y6, LeO (capture_Reader_header.j0 k y0 y1 y2 y3 y4 y5 y6) (capture_Reader_header.j0 (k + 1) y0 y1 y2 y3 y4 y5 y6))
 | 0 => fun _ _ _ _ _ _ _ r h => by simp [capture_Reader_header.j0] at h
 | k + 1 => by
  have ih0 := capture_Reader_header.mono_l k
  intro y0 y1 y2 y3 y4 y5 y6
  unfold capture_Reader_header.j0
  repeat' first | with_reducible first | apply ih0 | apply capture_Reader_number.mono | apply LeO.refl | apply LeO.none | refine LeO.ite ?_ ?_ | refine LeO.bind ?_ (fun _ => ?_)
theorem capture_Reader_header.mono : ∀ a0 a1 a2 a3 a4 a5 a6 k, LeO (capture_Reader_header.f k a0 a1 a2 a3 a4 a5 a6) (capture_Reader_header.f (k + 1) a0 a1 a2 a3 a4 a5 a6) := by
 intro a0 a1 a2 a3 a4 a5 a6 k
 have ih0 := capture_Reader_header.mono_l k
 unfold capture_Reader_header.f
 repeat' first | with_reducible first | apply ih0 | apply capture_Reader_number.mono | apply LeO.refl | apply LeO.none | refine LeO.ite ?_ ?_ | refine LeO.bind ?_ (fun _ => ?_)
set_option maxHeartbeats 8000000 in
set_option maxRecDepth 100000 in
theorem capture_Reader_header.calls (k : Nat) (g : Nat) (s0_0 : ByteArray) (s0_1 : Int) (s0_2 : Bool) (s0_3 : Bool) (s0_4 : Int) (s0_5 : Int) (s0_6 : Bool) (r1 : Bool) (r2 : Int) (r3 : ByteArray) (r4 : Int) (r5 : Bool) (r6 : Bool) (r7 : Int) (r8 : Int) (r9 : Bool) (w0 w : World) (hI : IsS47 w0 w g s0_0 s0_1 s0_2 s0_3 s0_4 s0_5 s0_6) (hB : Below w0.heap.size w0 w) (h : capture_Reader_header.f k s0_0 s0_1 s0_2 s0_3 s0_4 s0_5 s0_6 = some (r1, r2, r3, r4, r5, r6, r7, r8, r9)) :
  Calls Try.prog 29 #[.pointer (some ⟨g, 0, none⟩)] w fun e w' => e = .returned (.tuple #[.bool r1, .int .i64 r2]) ∧ IsS47 w0 w' g r3 r4 r5 r6 r7 r8 r9 ∧ Below w0.heap.size w0 w' ∧ KeepBut w w' g none := by
 have HI0 := As hI
 have HK := As (KeepBut.refl w g none)
 have HL := As hB.size
 clear hI
 have HW0 := As hB.size
 have HB := As hB
 clear hB
 have H : (if (s0_0.size : Int) < 24 then (some (false, 0, s0_0, s0_1, s0_2, s0_3, s0_4, s0_5, s0_6)) else ((capture_Reader_number.f k s0_0 s0_1 s0_2 s0_3 s0_4 s0_5 s0_6 0 4).bind fun bt111 => (if bt111.1 = 2712847316 then (capture_Reader_header.j0 k bt111.2.1 bt111.2.2.1 bt111.2.2.2.1 bt111.2.2.2.2.1 bt111.2.2.2.2.2.1 bt111.2.2.2.2.2.2.1 bt111.2.2.2.2.2.2.2) else (capture_Reader_header.j0 k bt111.2.1 bt111.2.2.1 bt111.2.2.2.1 true bt111.2.2.2.2.2.1 bt111.2.2.2.2.2.2.1 bt111.2.2.2.2.2.2.2)))) = some (r1, r2, r3, r4, r5, r6, r7, r8, r9) := h
 clear h
 by_cases c2 : (s0_0.size : Int) < 24
 ·rw [if_pos c2] at H
  have c2b0 : decide ((s0_0.size : Int) < 24) = true := decide_eq_true c2
  have c2b1 : decide (s0_0.size < 24) = true := decide_eq_true (by omega)
  clear c2
  simp only [Option.some.injEq, Prod.mk.injEq] at H
  obtain ⟨rfl, rfl, rfl, rfl, rfl, rfl, rfl, rfl, rfl⟩ := H
  obtain ⟨HGz3, hgz3⟩ := HI0.out
  have hcz3_0 := cellS47_0 HGz3
  have hcz3_1 := cellS47_1 HGz3
  have hcz3_2 := cellS47_2 HGz3
  have hcz3_3 := cellS47_3 HGz3
  have hcz3_4 := cellS47_4 HGz3
  have hcz3_5 := cellS47_5 HGz3
  have hcz3_6 := cellS47_6 HGz3
  have hfz3_0 := blk_frozen HGz3 0
  have hfz3_1 := blk_frozen HGz3 1
  have hfz3_2 := blk_frozen HGz3 2
  have hfz3_3 := blk_frozen HGz3 3
  have hfz3_4 := blk_frozen HGz3 4
  have hfz3_5 := blk_frozen HGz3 5
  have hfz3_6 := blk_frozen HGz3 6
  clear HGz3 hgz3
  go_enter Try.func29, Try.ntmps29
  go_wp2
  go_ret2
  exact ⟨kE, by repeat (first | (with_reducible first | exact HI0.out | apply IsS47.alloc | apply IsS47.drewN | apply IsS47.drew | apply IsS47.set_0 | apply IsS47.set_1 | apply IsS47.set_2 | apply IsS47.set_3 | apply IsS47.set_4 | apply IsS47.set_5 | apply IsS47.set_6) | exact HI0.out), by exact kB1 HB.out (IsS47.ge HI0.out), by repeat (first | (with_reducible first | exact HK.out | apply KeepBut.set_ | apply keep_drewN | apply keep_drew | apply keep_alloc) | exact HK.out)⟩
 rw [if_neg c2] at H
 have c2b0 : decide ((s0_0.size : Int) < 24) = false := decide_eq_false c2
 have c2b1 : decide (s0_0.size < 24) = false := decide_eq_false (by omega)
 clear c2
 replace H := Option.bind_eq_some_iff.mp H
 obtain ⟨⟨t111, t112, t113, t114, t115, t116, t117, t118⟩, A40, H⟩ := H
 replace H : (if t111 = 2712847316 then (capture_Reader_header.j0 k t112 t113 t114 t115 t116 t117 t118) else (capture_Reader_header.j0 k t112 t113 t114 true t116 t117 t118)) = some (r1, r2, r3, r4, r5, r6, r7, r8, r9) := H
 have A4 := As A40
 clear A40
 have HC5 := As H
 clear H
 obtain ⟨HGz6, hgz6⟩ := HI0.out
 have hcz6_0 := cellS47_0 HGz6
 have hcz6_1 := cellS47_1 HGz6
 have hcz6_2 := cellS47_2 HGz6
 have hcz6_3 := cellS47_3 HGz6
 have hcz6_4 := cellS47_4 HGz6
 have hcz6_5 := cellS47_5 HGz6
 have hcz6_6 := cellS47_6 HGz6
 have hfz6_0 := blk_frozen HGz6 0
 have hfz6_1 := blk_frozen HGz6 1
 have hfz6_2 := blk_frozen HGz6 2
 have hfz6_3 := blk_frozen HGz6 3
 have hfz6_4 := blk_frozen HGz6 4
 have hfz6_5 := blk_frozen HGz6 5
 have hfz6_6 := blk_frozen HGz6 6
 clear HGz6 hgz6
 go_enter Try.func29, Try.ntmps29
 go_upto_if 12 with (first | ((with_reducible refine gate_callee (f := 35) rfl ?_); refine goesL_ (some 11) rfl rfl Try.func35 (by kernel_rfl) rfl #[.pointer (some ⟨g, 0, none⟩), .int .i64 0, .int .i64 4] rfl kA ?_; (with_reducible refine (capture_Reader_number.calls k g s0_0 s0_1 s0_2 s0_3 s0_4 s0_5 s0_6 0 4 t111 t112 t113 t114 t115 t116 t117 t118 w0 _ ?side1 ?side2 A4.out).mono ?_); (case side1 => repeat (first | (with_reducible first | exact HI0.out | apply IsS47.alloc | apply IsS47.drewN | apply IsS47.drew | apply IsS47.set_0 | apply IsS47.set_1 | apply IsS47.set_2 | apply IsS47.set_3 | apply IsS47.set_4 | apply IsS47.set_5 | apply IsS47.set_6) | exact HI0.out)); (case side2 => exact kB1 HB.out (IsS47.ge HI0.out)); rintro e w7 ⟨rfl, hi, hb, hk⟩; refine ⟨_, rfl, ?_⟩; replace HK := As (KeepBut.trans (by repeat (first | (with_reducible first | exact HK.out | apply KeepBut.set_ | apply keep_drewN | apply keep_drew | apply keep_alloc) | exact HK.out)) hk (.inl rfl)); replace HB := As (hb); replace HI0 := As (hi); (try clear hb); (try clear hk); (try clear hi)))
 (try simp only [Act.put, sA, sZ, sS])
 go_cut [] (fun wc => ∃ (kq : Nat) (x1003_4 : Bool), Aside0 (capture_Reader_header.j0 kq t112 t113 t114 x1003_4 t116 t117 t118 = some (r1, r2, r3, r4, r5, r6, r7, r8, r9)) ∧ Aside0 (kq ≤ k) ∧ Aside0 (IsS47 w0 wc g t112 t113 t114 x1003_4 t116 t117 t118) ∧ Aside0 (KeepBut w wc g none) ∧ Aside0 (Below w0.heap.size w0 wc))
 case first =>
  have H := HC5.out
  clear HC5
  by_cases c8 : t111 = 2712847316
  ·rw [if_pos c8] at H
   have c8b0 : (t111 == 2712847316) = true := beq_iff_eq.mpr c8
   have c8b1 : (t111 != 2712847316) = false := bne_eq_false_iff_eq.mpr c8
   clear c8
   (first | rw [c8b0] | (simp only [i64_w, i32_w]; rw [c8b0]) | skip)
   have H' := As H
   clear H
   go_wp2
   go_meet
   case rel => exact ⟨_, (t115), H', ⟨by first | omega | exact Nat.le_refl _⟩, ⟨by repeat (first | (with_reducible first | exact HI0.out | apply IsS47.alloc | apply IsS47.drewN | apply IsS47.drew | apply IsS47.set_0 | apply IsS47.set_1 | apply IsS47.set_2 | apply IsS47.set_3 | apply IsS47.set_4 | apply IsS47.set_5 | apply IsS47.set_6) | exact HI0.out)⟩, ⟨by repeat (first | (with_reducible first | exact HK.out | apply KeepBut.set_ | apply keep_drewN | apply keep_drew | apply keep_alloc) | exact HK.out)⟩, ⟨kB1 HB.out (IsS47.ge HI0.out)⟩⟩
  rw [if_neg c8] at H
  have c8b0 : (t111 == 2712847316) = false := beq_eq_false_iff_ne.mpr c8
  have c8b1 : (t111 != 2712847316) = true := bne_iff_ne.mpr c8
  (first | rw [c8b0] | (simp only [i64_w, i32_w]; rw [c8b0]) | skip)
  have H' := As H
  clear H
  obtain ⟨HGz9, hgz9⟩ := HI0.out
  have hcz9_0 := cellS47_0 HGz9
  have hcz9_1 := cellS47_1 HGz9
  have hcz9_2 := cellS47_2 HGz9
  have hcz9_3 := cellS47_3 HGz9
  have hcz9_4 := cellS47_4 HGz9
  have hcz9_5 := cellS47_5 HGz9
  have hcz9_6 := cellS47_6 HGz9
  have hfz9_0 := blk_frozen HGz9 0
  have hfz9_1 := blk_frozen HGz9 1
  have hfz9_2 := blk_frozen HGz9 2
  have hfz9_3 := blk_frozen HGz9 3
  have hfz9_4 := blk_frozen HGz9 4
  have hfz9_5 := blk_frozen HGz9 5
  have hfz9_6 := blk_frozen HGz9 6
  clear HGz9 hgz9
  go_wp2
  go_meet
  case rel => exact ⟨_, (true), H', ⟨by first | omega | exact Nat.le_refl _⟩, ⟨by repeat (first | (with_reducible first | exact HI0.out | apply IsS47.alloc | apply IsS47.drewN | apply IsS47.drew | apply IsS47.set_0 | apply IsS47.set_1 | apply IsS47.set_2 | apply IsS47.set_3 | apply IsS47.set_4 | apply IsS47.set_5 | apply IsS47.set_6) | exact HI0.out)⟩, ⟨by repeat (first | (with_reducible first | exact HK.out | apply KeepBut.set_ | apply keep_drewN | apply keep_drew | apply keep_alloc) | exact HK.out)⟩, ⟨kB1 HB.out (IsS47.ge HI0.out)⟩⟩
 clear HC5
 try clear c2
 try clear c2b0
 try clear c2b1
 try clear hcz6_0
 try clear hcz6_1
 try clear hcz6_2
 try clear hcz6_3
 try clear hcz6_4
 try clear hcz6_5
 try clear hcz6_6
 try clear hfz6_0
 try clear hfz6_1
 try clear hfz6_2
 try clear hfz6_3
 try clear hfz6_4
 try clear hfz6_5
 try clear hfz6_6
 obtain ⟨kq, x1003_4, HA, HJ4, HI0, HK, HB⟩ := hcut
 cases kq with
 | zero => exact absurd HA.out (by simp [capture_Reader_header.j0])
 | succ kj4 =>
  have H := HA.out
  clear HA
  simp only [capture_Reader_header.j0] at H
  replace H := Option.bind_eq_some_iff.mp H
  obtain ⟨⟨t119, t120, t121, t122, t123, t124, t125, t126⟩, A100, H⟩ := H
  replace H : (if t119 = 2712847316 then ((capture_Reader_number.f kj4 t120 t121 t122 t123 t124 t125 t126 4 2).bind fun bt127 => (if bt127.1 = 2 then ((capture_Reader_number.f kj4 bt127.2.1 bt127.2.2.1 bt127.2.2.2.1 bt127.2.2.2.2.1 bt127.2.2.2.2.2.1 bt127.2.2.2.2.2.2.1 bt127.2.2.2.2.2.2.2 6 2).bind fun bt135 => (if bt135.1 = 4 then ((capture_Reader_number.f kj4 bt135.2.1 bt135.2.2.1 bt135.2.2.2.1 bt135.2.2.2.2.1 bt135.2.2.2.2.2.1 bt135.2.2.2.2.2.2.1 bt135.2.2.2.2.2.2.2 20 4).bind fun bt143 => (if bt143.1 = 1 then ((capture_Reader_skip.f bt143.2.1 bt143.2.2.1 bt143.2.2.2.1 bt143.2.2.2.2.1 bt143.2.2.2.2.2.1 bt143.2.2.2.2.2.2.1 bt143.2.2.2.2.2.2.2 24).bind fun bt151 => (some (true, 0, bt151.1, bt151.2.1, true, bt151.2.2.2.1, bt151.2.2.2.2.1, bt151.2.2.2.2.2.1, bt151.2.2.2.2.2.2))) else (some (false, 2, bt143.2.1, bt143.2.2.1, bt143.2.2.2.1, bt143.2.2.2.2.1, bt143.2.2.2.2.2.1, bt143.2.2.2.2.2.2.1, bt143.2.2.2.2.2.2.2)))) else (some (false, 2, bt135.2.1, bt135.2.2.1, bt135.2.2.2.1, bt135.2.2.2.2.1, bt135.2.2.2.2.2.1, bt135.2.2.2.2.2.2.1, bt135.2.2.2.2.2.2.2)))) else (some (false, 2, bt127.2.1, bt127.2.2.1, bt127.2.2.2.1, bt127.2.2.2.2.1, bt127.2.2.2.2.2.1, bt127.2.2.2.2.2.2.1, bt127.2.2.2.2.2.2.2)))) else (some (false, 2, t120, t121, t122, t123, t124, t125, t126))) = some (r1, r2, r3, r4, r5, r6, r7, r8, r9) := H
  have A10 := As A100
  clear A100
  by_cases c11 : t119 = 2712847316
  ·rw [if_pos c11] at H
   have c11b0 : (t119 == 2712847316) = true := beq_iff_eq.mpr c11
   have c11b1 : (t119 != 2712847316) = false := bne_eq_false_iff_eq.mpr c11
   clear c11
   replace H := Option.bind_eq_some_iff.mp H
   obtain ⟨⟨t127, t128, t129, t130, t131, t132, t133, t134⟩, A120, H⟩ := H
   replace H : (if t127 = 2 then ((capture_Reader_number.f kj4 t128 t129 t130 t131 t132 t133 t134 6 2).bind fun bt135 => (if bt135.1 = 4 then ((capture_Reader_number.f kj4 bt135.2.1 bt135.2.2.1 bt135.2.2.2.1 bt135.2.2.2.2.1 bt135.2.2.2.2.2.1 bt135.2.2.2.2.2.2.1 bt135.2.2.2.2.2.2.2 20 4).bind fun bt143 => (if bt143.1 = 1 then ((capture_Reader_skip.f bt143.2.1 bt143.2.2.1 bt143.2.2.2.1 bt143.2.2.2.2.1 bt143.2.2.2.2.2.1 bt143.2.2.2.2.2.2.1 bt143.2.2.2.2.2.2.2 24).bind fun bt151 => (some (true, 0, bt151.1, bt151.2.1, true, bt151.2.2.2.1, bt151.2.2.2.2.1, bt151.2.2.2.2.2.1, bt151.2.2.2.2.2.2))) else (some (false, 2, bt143.2.1, bt143.2.2.1, bt143.2.2.2.1, bt143.2.2.2.2.1, bt143.2.2.2.2.2.1, bt143.2.2.2.2.2.2.1, bt143.2.2.2.2.2.2.2)))) else (some (false, 2, bt135.2.1, bt135.2.2.1, bt135.2.2.2.1, bt135.2.2.2.2.1, bt135.2.2.2.2.2.1, bt135.2.2.2.2.2.2.1, bt135.2.2.2.2.2.2.2)))) else (some (false, 2, t128, t129, t130, t131, t132, t133, t134))) = some (r1, r2, r3, r4, r5, r6, r7, r8, r9) := H
   have A12 := As A120
   clear A120
   by_cases c13 : t127 = 2
   ·rw [if_pos c13] at H
    have c13b0 : (t127 == 2) = true := beq_iff_eq.mpr c13
    have c13b1 : (t127 != 2) = false := bne_eq_false_iff_eq.mpr c13
    clear c13
    replace H := Option.bind_eq_some_iff.mp H
    obtain ⟨⟨t135, t136, t137, t138, t139, t140, t141, t142⟩, A140, H⟩ := H
    replace H : (if t135 = 4 then ((capture_Reader_number.f kj4 t136 t137 t138 t139 t140 t141 t142 20 4).bind fun bt143 => (if bt143.1 = 1 then ((capture_Reader_skip.f bt143.2.1 bt143.2.2.1 bt143.2.2.2.1 bt143.2.2.2.2.1 bt143.2.2.2.2.2.1 bt143.2.2.2.2.2.2.1 bt143.2.2.2.2.2.2.2 24).bind fun bt151 => (some (true, 0, bt151.1, bt151.2.1, true, bt151.2.2.2.1, bt151.2.2.2.2.1, bt151.2.2.2.2.2.1, bt151.2.2.2.2.2.2))) else (some (false, 2, bt143.2.1, bt143.2.2.1, bt143.2.2.2.1, bt143.2.2.2.2.1, bt143.2.2.2.2.2.1, bt143.2.2.2.2.2.2.1, bt143.2.2.2.2.2.2.2)))) else (some (false, 2, t136, t137, t138, t139, t140, t141, t142))) = some (r1, r2, r3, r4, r5, r6, r7, r8, r9) := H
    have A14 := As A140
    clear A140
    by_cases c15 : t135 = 4
    ·rw [if_pos c15] at H
     have c15b0 : (t135 == 4) = true := beq_iff_eq.mpr c15
     have c15b1 : (t135 != 4) = false := bne_eq_false_iff_eq.mpr c15
     clear c15
     replace H := Option.bind_eq_some_iff.mp H
     obtain ⟨⟨t143, t144, t145, t146, t147, t148, t149, t150⟩, A160, H⟩ := H
     replace H : (if t143 = 1 then ((capture_Reader_skip.f t144 t145 t146 t147 t148 t149 t150 24).bind fun bt151 => (some (true, 0, bt151.1, bt151.2.1, true, bt151.2.2.2.1, bt151.2.2.2.2.1, bt151.2.2.2.2.2.1, bt151.2.2.2.2.2.2))) else (some (false, 2, t144, t145, t146, t147, t148, t149, t150))) = some (r1, r2, r3, r4, r5, r6, r7, r8, r9) := H
     have A16 := As A160
     clear A160
     by_cases c17 : t143 = 1
     ·rw [if_pos c17] at H
      have c17b0 : (t143 == 1) = true := beq_iff_eq.mpr c17
      have c17b1 : (t143 != 1) = false := bne_eq_false_iff_eq.mpr c17
      clear c17
      replace H := Option.bind_eq_some_iff.mp H
      obtain ⟨⟨t151, t152, t153, t154, t155, t156, t157⟩, A180, H⟩ := H
      replace H : (some (true, 0, t151, t152, true, t154, t155, t156, t157)) = some (r1, r2, r3, r4, r5, r6, r7, r8, r9) := H
      have A18 := As A180
      clear A180
      simp only [Option.some.injEq, Prod.mk.injEq] at H
      obtain ⟨rfl, rfl, rfl, rfl, rfl, rfl, rfl, rfl, rfl⟩ := H
      go_wp2_with (first | ((with_reducible refine gate_callee (f := 35) rfl ?_); refine goesL_ (some 17) rfl rfl Try.func35 (by kernel_rfl) rfl #[.pointer (some ⟨g, 0, none⟩), .int .i64 0, .int .i64 4] rfl kA ?_; (with_reducible refine (capture_Reader_number.calls kj4 g t112 t113 t114 x1003_4 t116 t117 t118 0 4 t119 t120 t121 t122 t123 t124 t125 t126 w0 _ ?side1 ?side2 A10.out).mono ?_); (case side1 => repeat (first | (with_reducible first | exact HI0.out | apply IsS47.alloc | apply IsS47.drewN | apply IsS47.drew | apply IsS47.set_0 | apply IsS47.set_1 | apply IsS47.set_2 | apply IsS47.set_3 | apply IsS47.set_4 | apply IsS47.set_5 | apply IsS47.set_6) | exact HI0.out)); (case side2 => exact kB1 HB.out (IsS47.ge HI0.out)); rintro e w19 ⟨rfl, hi, hb, hk⟩; refine ⟨_, rfl, ?_⟩; replace HK := As (KeepBut.trans (by repeat (first | (with_reducible first | exact HK.out | apply KeepBut.set_ | apply keep_drewN | apply keep_drew | apply keep_alloc) | exact HK.out)) hk (.inl rfl)); replace HB := As (hb); replace HI0 := As (hi); (try clear hb); (try clear hk); (try clear hi)) | (go_at_call 35; (with_reducible refine (capture_Reader_number.calls kj4 g t120 t121 t122 t123 t124 t125 t126 4 2 t127 t128 t129 t130 t131 t132 t133 t134 w0 _ ?side1 ?side2 A12.out).mono ?_); (case side1 => repeat (first | (with_reducible first | exact HI0.out | apply IsS47.alloc | apply IsS47.drewN | apply IsS47.drew | apply IsS47.set_0 | apply IsS47.set_1 | apply IsS47.set_2 | apply IsS47.set_3 | apply IsS47.set_4 | apply IsS47.set_5 | apply IsS47.set_6) | exact HI0.out)); (case side2 => exact kB1 HB.out (IsS47.ge HI0.out)); rintro e w20 ⟨rfl, hi, hb, hk⟩; replace HK := As (KeepBut.trans (by repeat (first | (with_reducible first | exact HK.out | apply KeepBut.set_ | apply keep_drewN | apply keep_drew | apply keep_alloc) | exact HK.out)) hk (.inl rfl)); replace HB := As (hb); replace HI0 := As (hi); (try clear hb); (try clear hk); (try clear hi)) | (go_at_call 35; (with_reducible refine (capture_Reader_number.calls kj4 g t128 t129 t130 t131 t132 t133 t134 6 2 t135 t136 t137 t138 t139 t140 t141 t142 w0 _ ?side1 ?side2 A14.out).mono ?_); (case side1 => repeat (first | (with_reducible first | exact HI0.out | apply IsS47.alloc | apply IsS47.drewN | apply IsS47.drew | apply IsS47.set_0 | apply IsS47.set_1 | apply IsS47.set_2 | apply IsS47.set_3 | apply IsS47.set_4 | apply IsS47.set_5 | apply IsS47.set_6) | exact HI0.out)); (case side2 => exact kB1 HB.out (IsS47.ge HI0.out)); rintro e w21 ⟨rfl, hi, hb, hk⟩; replace HK := As (KeepBut.trans (by repeat (first | (with_reducible first | exact HK.out | apply KeepBut.set_ | apply keep_drewN | apply keep_drew | apply keep_alloc) | exact HK.out)) hk (.inl rfl)); replace HB := As (hb); replace HI0 := As (hi); (try clear hb); (try clear hk); (try clear hi)) | (go_at_call 35; (with_reducible refine (capture_Reader_number.calls kj4 g t136 t137 t138 t139 t140 t141 t142 20 4 t143 t144 t145 t146 t147 t148 t149 t150 w0 _ ?side1 ?side2 A16.out).mono ?_); (case side1 => repeat (first | (with_reducible first | exact HI0.out | apply IsS47.alloc | apply IsS47.drewN | apply IsS47.drew | apply IsS47.set_0 | apply IsS47.set_1 | apply IsS47.set_2 | apply IsS47.set_3 | apply IsS47.set_4 | apply IsS47.set_5 | apply IsS47.set_6) | exact HI0.out)); (case side2 => exact kB1 HB.out (IsS47.ge HI0.out)); rintro e w22 ⟨rfl, hi, hb, hk⟩; replace HK := As (KeepBut.trans (by repeat (first | (with_reducible first | exact HK.out | apply KeepBut.set_ | apply keep_drewN | apply keep_drew | apply keep_alloc) | exact HK.out)) hk (.inl rfl)); replace HB := As (hb); replace HI0 := As (hi); (try clear hb); (try clear hk); (try clear hi)) | ((with_reducible refine gate_callee (f := 36) rfl ?_); refine goesL_ (some 35) rfl rfl Try.func36 (by kernel_rfl) rfl #[.pointer (some ⟨g, 0, none⟩), .int .i64 24] rfl kA ?_; (with_reducible refine (capture_Reader_skip.calls g t144 t145 t146 t147 t148 t149 t150 24 t151 t152 t153 t154 t155 t156 t157 w0 _ ?side1 ?side2 A18.out).mono ?_); (case side1 => repeat (first | (with_reducible first | exact HI0.out | apply IsS47.alloc | apply IsS47.drewN | apply IsS47.drew | apply IsS47.set_0 | apply IsS47.set_1 | apply IsS47.set_2 | apply IsS47.set_3 | apply IsS47.set_4 | apply IsS47.set_5 | apply IsS47.set_6) | exact HI0.out)); (case side2 => exact kB1 HB.out (IsS47.ge HI0.out)); rintro e w23 ⟨rfl, hi, hb, hk⟩; refine ⟨_, rfl, ?_⟩; replace HK := As (KeepBut.trans (by repeat (first | (with_reducible first | exact HK.out | apply KeepBut.set_ | apply keep_drewN | apply keep_drew | apply keep_alloc) | exact HK.out)) hk (.inl rfl)); replace HB := As (hb); replace HI0 := As (hi); (try clear hb); (try clear hk); (try clear hi); obtain ⟨HGz24, hgz24⟩ := HI0.out; have hcz24_0 := cellS47_0 HGz24; have hcz24_1 := cellS47_1 HGz24; have hcz24_2 := cellS47_2 HGz24; have hcz24_3 := cellS47_3 HGz24; have hcz24_4 := cellS47_4 HGz24; have hcz24_5 := cellS47_5 HGz24; have hcz24_6 := cellS47_6 HGz24; have hfz24_0 := blk_frozen HGz24 0; have hfz24_1 := blk_frozen HGz24 1; have hfz24_2 := blk_frozen HGz24 2; have hfz24_3 := blk_frozen HGz24 3; have hfz24_4 := blk_frozen HGz24 4; have hfz24_5 := blk_frozen HGz24 5; have hfz24_6 := blk_frozen HGz24 6; clear HGz24 hgz24))
      go_ret2
      exact ⟨kE, by repeat (first | (with_reducible first | exact HI0.out | apply IsS47.alloc | apply IsS47.drewN | apply IsS47.drew | apply IsS47.set_0 | apply IsS47.set_1 | apply IsS47.set_2 | apply IsS47.set_3 | apply IsS47.set_4 | apply IsS47.set_5 | apply IsS47.set_6) | exact HI0.out), by exact kB1 HB.out (IsS47.ge HI0.out), by repeat (first | (with_reducible first | exact HK.out | apply KeepBut.set_ | apply keep_drewN | apply keep_drew | apply keep_alloc) | exact HK.out)⟩
     rw [if_neg c17] at H
     have c17b0 : (t143 == 1) = false := beq_eq_false_iff_ne.mpr c17
     have c17b1 : (t143 != 1) = true := bne_iff_ne.mpr c17
     simp only [Option.some.injEq, Prod.mk.injEq] at H
     obtain ⟨rfl, rfl, rfl, rfl, rfl, rfl, rfl, rfl, rfl⟩ := H
     go_wp2_with (first | ((with_reducible refine gate_callee (f := 35) rfl ?_); refine goesL_ (some 17) rfl rfl Try.func35 (by kernel_rfl) rfl #[.pointer (some ⟨g, 0, none⟩), .int .i64 0, .int .i64 4] rfl kA ?_; (with_reducible refine (capture_Reader_number.calls kj4 g t112 t113 t114 x1003_4 t116 t117 t118 0 4 t119 t120 t121 t122 t123 t124 t125 t126 w0 _ ?side1 ?side2 A10.out).mono ?_); (case side1 => repeat (first | (with_reducible first | exact HI0.out | apply IsS47.alloc | apply IsS47.drewN | apply IsS47.drew | apply IsS47.set_0 | apply IsS47.set_1 | apply IsS47.set_2 | apply IsS47.set_3 | apply IsS47.set_4 | apply IsS47.set_5 | apply IsS47.set_6) | exact HI0.out)); (case side2 => exact kB1 HB.out (IsS47.ge HI0.out)); rintro e w25 ⟨rfl, hi, hb, hk⟩; refine ⟨_, rfl, ?_⟩; replace HK := As (KeepBut.trans (by repeat (first | (with_reducible first | exact HK.out | apply KeepBut.set_ | apply keep_drewN | apply keep_drew | apply keep_alloc) | exact HK.out)) hk (.inl rfl)); replace HB := As (hb); replace HI0 := As (hi); (try clear hb); (try clear hk); (try clear hi)) | (go_at_call 35; (with_reducible refine (capture_Reader_number.calls kj4 g t120 t121 t122 t123 t124 t125 t126 4 2 t127 t128 t129 t130 t131 t132 t133 t134 w0 _ ?side1 ?side2 A12.out).mono ?_); (case side1 => repeat (first | (with_reducible first | exact HI0.out | apply IsS47.alloc | apply IsS47.drewN | apply IsS47.drew | apply IsS47.set_0 | apply IsS47.set_1 | apply IsS47.set_2 | apply IsS47.set_3 | apply IsS47.set_4 | apply IsS47.set_5 | apply IsS47.set_6) | exact HI0.out)); (case side2 => exact kB1 HB.out (IsS47.ge HI0.out)); rintro e w26 ⟨rfl, hi, hb, hk⟩; replace HK := As (KeepBut.trans (by repeat (first | (with_reducible first | exact HK.out | apply KeepBut.set_ | apply keep_drewN | apply keep_drew | apply keep_alloc) | exact HK.out)) hk (.inl rfl)); replace HB := As (hb); replace HI0 := As (hi); (try clear hb); (try clear hk); (try clear hi)) | (go_at_call 35; (with_reducible refine (capture_Reader_number.calls kj4 g t128 t129 t130 t131 t132 t133 t134 6 2 t135 t136 t137 t138 t139 t140 t141 t142 w0 _ ?side1 ?side2 A14.out).mono ?_); (case side1 => repeat (first | (with_reducible first | exact HI0.out | apply IsS47.alloc | apply IsS47.drewN | apply IsS47.drew | apply IsS47.set_0 | apply IsS47.set_1 | apply IsS47.set_2 | apply IsS47.set_3 | apply IsS47.set_4 | apply IsS47.set_5 | apply IsS47.set_6) | exact HI0.out)); (case side2 => exact kB1 HB.out (IsS47.ge HI0.out)); rintro e w27 ⟨rfl, hi, hb, hk⟩; replace HK := As (KeepBut.trans (by repeat (first | (with_reducible first | exact HK.out | apply KeepBut.set_ | apply keep_drewN | apply keep_drew | apply keep_alloc) | exact HK.out)) hk (.inl rfl)); replace HB := As (hb); replace HI0 := As (hi); (try clear hb); (try clear hk); (try clear hi)) | (go_at_call 35; (with_reducible refine (capture_Reader_number.calls kj4 g t136 t137 t138 t139 t140 t141 t142 20 4 t143 t144 t145 t146 t147 t148 t149 t150 w0 _ ?side1 ?side2 A16.out).mono ?_); (case side1 => repeat (first | (with_reducible first | exact HI0.out | apply IsS47.alloc | apply IsS47.drewN | apply IsS47.drew | apply IsS47.set_0 | apply IsS47.set_1 | apply IsS47.set_2 | apply IsS47.set_3 | apply IsS47.set_4 | apply IsS47.set_5 | apply IsS47.set_6) | exact HI0.out)); (case side2 => exact kB1 HB.out (IsS47.ge HI0.out)); rintro e w28 ⟨rfl, hi, hb, hk⟩; replace HK := As (KeepBut.trans (by repeat (first | (with_reducible first | exact HK.out | apply KeepBut.set_ | apply keep_drewN | apply keep_drew | apply keep_alloc) | exact HK.out)) hk (.inl rfl)); replace HB := As (hb); replace HI0 := As (hi); (try clear hb); (try clear hk); (try clear hi)))
     go_ret2
     exact ⟨kE, by repeat (first | (with_reducible first | exact HI0.out | apply IsS47.alloc | apply IsS47.drewN | apply IsS47.drew | apply IsS47.set_0 | apply IsS47.set_1 | apply IsS47.set_2 | apply IsS47.set_3 | apply IsS47.set_4 | apply IsS47.set_5 | apply IsS47.set_6) | exact HI0.out), by exact kB1 HB.out (IsS47.ge HI0.out), by repeat (first | (with_reducible first | exact HK.out | apply KeepBut.set_ | apply keep_drewN | apply keep_drew | apply keep_alloc) | exact HK.out)⟩
    rw [if_neg c15] at H
    have c15b0 : (t135 == 4) = false := beq_eq_false_iff_ne.mpr c15
    have c15b1 : (t135 != 4) = true := bne_iff_ne.mpr c15
    simp only [Option.some.injEq, Prod.mk.injEq] at H
    obtain ⟨rfl, rfl, rfl, rfl, rfl, rfl, rfl, rfl, rfl⟩ := H
    go_wp2_with (first | ((with_reducible refine gate_callee (f := 35) rfl ?_); refine goesL_ (some 17) rfl rfl Try.func35 (by kernel_rfl) rfl #[.pointer (some ⟨g, 0, none⟩), .int .i64 0, .int .i64 4] rfl kA ?_; (with_reducible refine (capture_Reader_number.calls kj4 g t112 t113 t114 x1003_4 t116 t117 t118 0 4 t119 t120 t121 t122 t123 t124 t125 t126 w0 _ ?side1 ?side2 A10.out).mono ?_); (case side1 => repeat (first | (with_reducible first | exact HI0.out | apply IsS47.alloc | apply IsS47.drewN | apply IsS47.drew | apply IsS47.set_0 | apply IsS47.set_1 | apply IsS47.set_2 | apply IsS47.set_3 | apply IsS47.set_4 | apply IsS47.set_5 | apply IsS47.set_6) | exact HI0.out)); (case side2 => exact kB1 HB.out (IsS47.ge HI0.out)); rintro e w29 ⟨rfl, hi, hb, hk⟩; refine ⟨_, rfl, ?_⟩; replace HK := As (KeepBut.trans (by repeat (first | (with_reducible first | exact HK.out | apply KeepBut.set_ | apply keep_drewN | apply keep_drew | apply keep_alloc) | exact HK.out)) hk (.inl rfl)); replace HB := As (hb); replace HI0 := As (hi); (try clear hb); (try clear hk); (try clear hi)) | (go_at_call 35; (with_reducible refine (capture_Reader_number.calls kj4 g t120 t121 t122 t123 t124 t125 t126 4 2 t127 t128 t129 t130 t131 t132 t133 t134 w0 _ ?side1 ?side2 A12.out).mono ?_); (case side1 => repeat (first | (with_reducible first | exact HI0.out | apply IsS47.alloc | apply IsS47.drewN | apply IsS47.drew | apply IsS47.set_0 | apply IsS47.set_1 | apply IsS47.set_2 | apply IsS47.set_3 | apply IsS47.set_4 | apply IsS47.set_5 | apply IsS47.set_6) | exact HI0.out)); (case side2 => exact kB1 HB.out (IsS47.ge HI0.out)); rintro e w30 ⟨rfl, hi, hb, hk⟩; replace HK := As (KeepBut.trans (by repeat (first | (with_reducible first | exact HK.out | apply KeepBut.set_ | apply keep_drewN | apply keep_drew | apply keep_alloc) | exact HK.out)) hk (.inl rfl)); replace HB := As (hb); replace HI0 := As (hi); (try clear hb); (try clear hk); (try clear hi)) | (go_at_call 35; (with_reducible refine (capture_Reader_number.calls kj4 g t128 t129 t130 t131 t132 t133 t134 6 2 t135 t136 t137 t138 t139 t140 t141 t142 w0 _ ?side1 ?side2 A14.out).mono ?_); (case side1 => repeat (first | (with_reducible first | exact HI0.out | apply IsS47.alloc | apply IsS47.drewN | apply IsS47.drew | apply IsS47.set_0 | apply IsS47.set_1 | apply IsS47.set_2 | apply IsS47.set_3 | apply IsS47.set_4 | apply IsS47.set_5 | apply IsS47.set_6) | exact HI0.out)); (case side2 => exact kB1 HB.out (IsS47.ge HI0.out)); rintro e w31 ⟨rfl, hi, hb, hk⟩; replace HK := As (KeepBut.trans (by repeat (first | (with_reducible first | exact HK.out | apply KeepBut.set_ | apply keep_drewN | apply keep_drew | apply keep_alloc) | exact HK.out)) hk (.inl rfl)); replace HB := As (hb); replace HI0 := As (hi); (try clear hb); (try clear hk); (try clear hi)))
    go_ret2
    exact ⟨kE, by repeat (first | (with_reducible first | exact HI0.out | apply IsS47.alloc | apply IsS47.drewN | apply IsS47.drew | apply IsS47.set_0 | apply IsS47.set_1 | apply IsS47.set_2 | apply IsS47.set_3 | apply IsS47.set_4 | apply IsS47.set_5 | apply IsS47.set_6) | exact HI0.out), by exact kB1 HB.out (IsS47.ge HI0.out), by repeat (first | (with_reducible first | exact HK.out | apply KeepBut.set_ | apply keep_drewN | apply keep_drew | apply keep_alloc) | exact HK.out)⟩
   rw [if_neg c13] at H
   have c13b0 : (t127 == 2) = false := beq_eq_false_iff_ne.mpr c13
   have c13b1 : (t127 != 2) = true := bne_iff_ne.mpr c13
   simp only [Option.some.injEq, Prod.mk.injEq] at H
   obtain ⟨rfl, rfl, rfl, rfl, rfl, rfl, rfl, rfl, rfl⟩ := H
   go_wp2_with (first | ((with_reducible refine gate_callee (f := 35) rfl ?_); refine goesL_ (some 17) rfl rfl Try.func35 (by kernel_rfl) rfl #[.pointer (some ⟨g, 0, none⟩), .int .i64 0, .int .i64 4] rfl kA ?_; (with_reducible refine (capture_Reader_number.calls kj4 g t112 t113 t114 x1003_4 t116 t117 t118 0 4 t119 t120 t121 t122 t123 t124 t125 t126 w0 _ ?side1 ?side2 A10.out).mono ?_); (case side1 => repeat (first | (with_reducible first | exact HI0.out | apply IsS47.alloc | apply IsS47.drewN | apply IsS47.drew | apply IsS47.set_0 | apply IsS47.set_1 | apply IsS47.set_2 | apply IsS47.set_3 | apply IsS47.set_4 | apply IsS47.set_5 | apply IsS47.set_6) | exact HI0.out)); (case side2 => exact kB1 HB.out (IsS47.ge HI0.out)); rintro e w32 ⟨rfl, hi, hb, hk⟩; refine ⟨_, rfl, ?_⟩; replace HK := As (KeepBut.trans (by repeat (first | (with_reducible first | exact HK.out | apply KeepBut.set_ | apply keep_drewN | apply keep_drew | apply keep_alloc) | exact HK.out)) hk (.inl rfl)); replace HB := As (hb); replace HI0 := As (hi); (try clear hb); (try clear hk); (try clear hi)) | (go_at_call 35; (with_reducible refine (capture_Reader_number.calls kj4 g t120 t121 t122 t123 t124 t125 t126 4 2 t127 t128 t129 t130 t131 t132 t133 t134 w0 _ ?side1 ?side2 A12.out).mono ?_); (case side1 => repeat (first | (with_reducible first | exact HI0.out | apply IsS47.alloc | apply IsS47.drewN | apply IsS47.drew | apply IsS47.set_0 | apply IsS47.set_1 | apply IsS47.set_2 | apply IsS47.set_3 | apply IsS47.set_4 | apply IsS47.set_5 | apply IsS47.set_6) | exact HI0.out)); (case side2 => exact kB1 HB.out (IsS47.ge HI0.out)); rintro e w33 ⟨rfl, hi, hb, hk⟩; replace HK := As (KeepBut.trans (by repeat (first | (with_reducible first | exact HK.out | apply KeepBut.set_ | apply keep_drewN | apply keep_drew | apply keep_alloc) | exact HK.out)) hk (.inl rfl)); replace HB := As (hb); replace HI0 := As (hi); (try clear hb); (try clear hk); (try clear hi)))
   go_ret2
   exact ⟨kE, by repeat (first | (with_reducible first | exact HI0.out | apply IsS47.alloc | apply IsS47.drewN | apply IsS47.drew | apply IsS47.set_0 | apply IsS47.set_1 | apply IsS47.set_2 | apply IsS47.set_3 | apply IsS47.set_4 | apply IsS47.set_5 | apply IsS47.set_6) | exact HI0.out), by exact kB1 HB.out (IsS47.ge HI0.out), by repeat (first | (with_reducible first | exact HK.out | apply KeepBut.set_ | apply keep_drewN | apply keep_drew | apply keep_alloc) | exact HK.out)⟩
  rw [if_neg c11] at H
  have c11b0 : (t119 == 2712847316) = false := beq_eq_false_iff_ne.mpr c11
  have c11b1 : (t119 != 2712847316) = true := bne_iff_ne.mpr c11
  simp only [Option.some.injEq, Prod.mk.injEq] at H
  obtain ⟨rfl, rfl, rfl, rfl, rfl, rfl, rfl, rfl, rfl⟩ := H
  go_wp2_with (first | ((with_reducible refine gate_callee (f := 35) rfl ?_); refine goesL_ (some 17) rfl rfl Try.func35 (by kernel_rfl) rfl #[.pointer (some ⟨g, 0, none⟩), .int .i64 0, .int .i64 4] rfl kA ?_; (with_reducible refine (capture_Reader_number.calls kj4 g t112 t113 t114 x1003_4 t116 t117 t118 0 4 t119 t120 t121 t122 t123 t124 t125 t126 w0 _ ?side1 ?side2 A10.out).mono ?_); (case side1 => repeat (first | (with_reducible first | exact HI0.out | apply IsS47.alloc | apply IsS47.drewN | apply IsS47.drew | apply IsS47.set_0 | apply IsS47.set_1 | apply IsS47.set_2 | apply IsS47.set_3 | apply IsS47.set_4 | apply IsS47.set_5 | apply IsS47.set_6) | exact HI0.out)); (case side2 => exact kB1 HB.out (IsS47.ge HI0.out)); rintro e w34 ⟨rfl, hi, hb, hk⟩; refine ⟨_, rfl, ?_⟩; replace HK := As (KeepBut.trans (by repeat (first | (with_reducible first | exact HK.out | apply KeepBut.set_ | apply keep_drewN | apply keep_drew | apply keep_alloc) | exact HK.out)) hk (.inl rfl)); replace HB := As (hb); replace HI0 := As (hi); (try clear hb); (try clear hk); (try clear hi)))
  go_ret2
  exact ⟨kE, by repeat (first | (with_reducible first | exact HI0.out | apply IsS47.alloc | apply IsS47.drewN | apply IsS47.drew | apply IsS47.set_0 | apply IsS47.set_1 | apply IsS47.set_2 | apply IsS47.set_3 | apply IsS47.set_4 | apply IsS47.set_5 | apply IsS47.set_6) | exact HI0.out), by exact kB1 HB.out (IsS47.ge HI0.out), by repeat (first | (with_reducible first | exact HK.out | apply KeepBut.set_ | apply keep_drewN | apply keep_drew | apply keep_alloc) | exact HK.out)⟩

end Go.Proofs.Ytafjmciojeondaa.X
-- short
