/- What the functions of the translation that this claim's statement reaches compute, each proved by its walk. Written by xprint.py, a program of this claim's author, run over the kit's printer. -/
import Derived.Test.YtdjbmfjeplheiaaDoorProg
import Derived.Below
import Derived.Deep.Draws
import Derived.Deep.AppendLies
import Derived.Maps.AppendAt
import Derived.OwnWalk
import Derived.Laws.BytesArg
import Derived.Laws.MakeOwn
import Derived.Laws.OwnMore
import Derived.Deep.OwnRows
import Derived.Tactics
import Derived.Lib.ConvBytes
import Derived.Laws.Slices
import Derived.WalkKit
import Derived.KernelRfl
import Derived.RowKit3
import Derived.Deep.LoopGhost
import Derived.Deep.QuietTactic
import Derived.BigQuiet
import Derived.WideLaws
import Derived.Deep.DeepCutAuto
import Derived.Deep.CutBlock
import Derived.Deep.RegionHeld3
import Derived.Laws.Rows
import Derived.Lib.AppendStr
import Derived.ArgAppend
import Derived.Laws.IdiomCopy
import Derived.OrdersHeld
import Derived.Laws.BitsLemmas
import Derived.RowKit
import Derived.Sort.Row
import Derived.Sort.WalkB12
import Derived.Lib.SlicesMore
import Derived.WalkMore
import Derived.Test.YtdjbmfjeplheiaaDoorWWords
import Derived.Test.YtdjbmfjeplheiaaDoorWLast
import Derived.Test.YtdjbmfjeplheiaaDoorWTab
import Derived.Test.YtdjbmfjeplheiaaDoorWFour
import Derived.Test.YtdjbmfjeplheiaaDoorWQPut
import Derived.Test.YtdjbmfjeplheiaaDoorWApart
import Derived.Test.YtdjbmfjeplheiaaDoorWArr
import Derived.Test.YtdjbmfjeplheiaaDoorWZeros
import Derived.Test.YtdjbmfjeplheiaaDoorWFoot
import Derived.Test.YtdjbmfjeplheiaaDoorWKept
import Derived.Test.YtdjbmfjeplheiaaDoorWShare
import Derived.Test.YtdjbmfjeplheiaaDoorWN
import Derived.Test.YtdjbmfjeplheiaaDoorWFootNe
import Derived.Test.YtdjbmfjeplheiaaDoorWAt
import Derived.Test.YtdjbmfjeplheiaaDoorWEqStruct
import Derived.Test.YtdjbmfjeplheiaaDoorWRepsOne
import Derived.Test.YtdjbmfjeplheiaaDoorWInv
import Derived.Test.YtdjbmfjeplheiaaDoorWInvWords
import Derived.Test.YtdjbmfjeplheiaaDoorWGuard
import Derived.Test.YtdjbmfjeplheiaaDoorWNEv
import Derived.Test.YtdjbmfjeplheiaaDoorWMore
namespace Go.Proofs.YtdjbmfjeplheiaaDoor.X
open Go.RowKit Go.Proofs.YtdjbmfjeplheiaaDoorW.PrintWords Go.Proofs.YtdjbmfjeplheiaaDoorW.PrintLast Go.Proofs.YtdjbmfjeplheiaaDoorW.PrintMore
attribute [local go_sem] max2_int min2_int max_two min_two max_three min_three max_four min_four   -- for this text's walks alone
set_option linter.unusedVariables false
set_option linter.unusedSimpArgs false



def errW : Option Int → Value
  | none => .nilIface
  | some c => .iface 0 (.int .i64 c)
theorem errW_none : errW none = .nilIface := rfl
theorem errW_some (c : Int) : errW (some c) = .iface 0 (.int .i64 c) := rfl

theorem info5 : (Tryd.prog.info? 5).map (fun i => (i.zero, i.size, i.bytes)) = some (some (.int .u8 0), 1, 1) := by kernel_rfl
-- the values' own types

theorem Kd.R_puts_0_3 {α : Type} {d : Kd α} {e : Nat} {base : Nat} {ok : Nat → Prop} {v : Value} {xs : List α} (g : Nat) {w : World} (x0 x1 x2 : Value) (h : d.R e w base ok v xs) (hok : ∀ k, ok k → k ≠ g) : d.R e (((w.setCell ⟨g, 0, none⟩ x0).setCell ⟨g, 1, none⟩ x1).setCell ⟨g, 2, none⟩ x2) base ok v xs :=
  (Kd.R_far (p := ⟨g, 2, none⟩) (Kd.R_far (p := ⟨g, 1, none⟩) (Kd.R_far (p := ⟨g, 0, none⟩) h hok x0) hok x1) hok x2)
theorem blk_all_3 {g : Nat} {t : TypeId} {w : World} {cs : Array Value} {x0 x1 x2 : Value} (h : w.heap[g]? = some (.cells cs t (0, 0))) (e : cs.size = 3) : (((w.setCell ⟨g, 0, none⟩ x0).setCell ⟨g, 1, none⟩ x1).setCell ⟨g, 2, none⟩ x2).heap[g]? = some (.cells #[x0, x1, x2] t (0, 0)) := by
  obtain ⟨l⟩ := cs
  match l, e with
  | [y0, y1, y2], _ => exact (blk_put (cs' := #[x0, x1, x2]) (blk_put (cs' := #[x0, x1, y2]) (blk_put (cs' := #[x0, y1, y2]) h 0 x0 rfl) 1 x1 rfl) 2 x2 rfl)
theorem blk_all_6 {g : Nat} {t : TypeId} {w : World} {cs : Array Value} {x0 x1 x2 x3 x4 x5 : Value} (h : w.heap[g]? = some (.cells cs t (0, 0))) (e : cs.size = 6) : ((((((w.setCell ⟨g, 0, none⟩ x0).setCell ⟨g, 1, none⟩ x1).setCell ⟨g, 2, none⟩ x2).setCell ⟨g, 3, none⟩ x3).setCell ⟨g, 4, none⟩ x4).setCell ⟨g, 5, none⟩ x5).heap[g]? = some (.cells #[x0, x1, x2, x3, x4, x5] t (0, 0)) := by
  obtain ⟨l⟩ := cs
  match l, e with
  | [y0, y1, y2, y3, y4, y5], _ => exact (blk_put (cs' := #[x0, x1, x2, x3, x4, x5]) (blk_put (cs' := #[x0, x1, x2, x3, x4, y5]) (blk_put (cs' := #[x0, x1, x2, x3, y4, y5]) (blk_put (cs' := #[x0, x1, x2, y3, y4, y5]) (blk_put (cs' := #[x0, x1, y2, y3, y4, y5]) (blk_put (cs' := #[x0, y1, y2, y3, y4, y5]) h 0 x0 rfl) 1 x1 rfl) 2 x2 rfl) 3 x3 rfl) 4 x4 rfl) 5 x5 rfl)

theorem cells_3 {w : World} {g : Nat} {t : TypeId} {x0 x1 x2 : Value} (h : w.heap[g]? = some (.cells #[x0, x1, x2] t (0, 0))) : w.cell? ⟨g, 0, none⟩ = some x0 ∧ w.cell? ⟨g, 1, none⟩ = some x1 ∧ w.cell? ⟨g, 2, none⟩ = some x2 := ⟨(blk_cell h 0).trans rfl, (blk_cell h 1).trans rfl, (blk_cell h 2).trans rfl⟩
theorem cells_6 {w : World} {g : Nat} {t : TypeId} {x0 x1 x2 x3 x4 x5 : Value} (h : w.heap[g]? = some (.cells #[x0, x1, x2, x3, x4, x5] t (0, 0))) : w.cell? ⟨g, 0, none⟩ = some x0 ∧ w.cell? ⟨g, 1, none⟩ = some x1 ∧ w.cell? ⟨g, 2, none⟩ = some x2 ∧ w.cell? ⟨g, 3, none⟩ = some x3 ∧ w.cell? ⟨g, 4, none⟩ = some x4 ∧ w.cell? ⟨g, 5, none⟩ = some x5 := ⟨(blk_cell h 0).trans rfl, (blk_cell h 1).trans rfl, (blk_cell h 2).trans rfl, (blk_cell h 3).trans rfl, (blk_cell h 4).trans rfl, (blk_cell h 5).trans rfl⟩


section
variable {P : Program} {ops : Array Oper} {rest : List Oper} {o : Oper} {a : Act} {Q : Exit → Act → World → Prop} {W : World}
/-- '[]byte(s)': a row that is new, and only read. -/
theorem conv_event {e : TypeId} (hgd : o.guard = none) {N : Tmp} (_hd : o.dst = some N) (src dst : TypeId) (x : Operand) (ho : o.op = .convert src dst x)
    (hs : P.underlying src = some .string) (hdd : P.underlying dst = some (.slice e)) (he : P.underlying e = some (.int .u8)) (s : ByteArray) (hx : a.eval x = .string s) (hsz : s.size ≤ 9223372036854775807)
    (h : ∀ v1 w1, Kd.V (Kd.int .u8) e w1 W.heap.size (fun k_ => W.heap.size ≤ k_) v1 (bytesOf s) → Below W.heap.size W w1 → W.grownBy w1 none → (∃ b, v1.ownBlock = some b ∧ W.heap.size ≤ b) → wpList P ops Q rest (a.put o.dst v1) w1) : wpList P ops Q (o :: rest) a W := by
  refine Kd.event_run (w1 := Lib.bytesWorld W e s) (v := .slice (some ⟨W.heap.size, 0, none⟩) s.size (grownCap W s.size 0 e)) hgd ?_ (h _ _ ?_ ?_ ?_ ⟨W.heap.size, by simp [Value.ownBlock], Nat.le_refl _⟩)
  · simp [execOp, ho, hx, Lib.run_convert_string_bytes W src dst e s hs hdd he]
  · have hl : (bytesOf s).length = s.size := bytesOf_length s
    rw [← hl]
    refine Kd.V_mk (by rw [hl]; exact grownCap_ge W s.size 0 e) ?_
    intro W' hW
    have hh := hW W.heap.size (Nat.le_refl _) (by rw [Lib.bytesWorld_size]; omega)
    refine Kd.C_of_reads (d := (0 : Int)) (h1 := fun _ => rfl) ⟨rfl, by rw [hl]; exact hsz, fun _ => ⟨_, rfl, fun j hj => ?_⟩⟩
    have hr := (bytes_reads W e s hsz).2.2 (by omega)
    obtain ⟨ad, had, hc⟩ := hr
    obtain rfl : (⟨W.heap.size, 0, none⟩ : Addr) = ad := Option.some.inj had
    have h2 := hc j (by omega)
    rw [add_plain] at h2 ⊢
    rw [World.cell?_of_block (w := Lib.bytesWorld W e s) hh]
    exact h2
  · exact bytes_below (Below.refl _ _) (Nat.le_refl _) e s
  · exact grown_of_below (bytes_below (Below.refl _ _) (Nat.le_refl _) e s) none
end

theorem cut_whole {P : Program} (t e : TypeId) (ht : P.underlying t = some (.slice e)) (hinfo : (P.info? e).map (fun i => (i.zero, i.size, i.bytes)) = some (some (.int .u8 0), 1, 1)) (g n c : Nat) (m : Int) (hm : m = (n : Int)) (h0 : 0 < n) (hc : n ≤ c) :
    ∀ W : World, (Instr.slice t (.slice (some ⟨g, 0, none⟩) n c) (some (.int .i64 0)) (some (.int .i64 m)) (some (.int .i64 m))).run P W = .ok (.slice (some ⟨g, 0, none⟩) n n) W := by
  intro W
  subst hm
  obtain ⟨i, hi, hz⟩ := Option.map_eq_some_iff.1 hinfo
  simp only [Prod.mk.injEq] at hz
  have hel : P.elem t = e := by simp [Program.elem, ht]
  have hu : P.underlying t = some (.slice (P.elem t)) := by rw [hel]; exact ht
  rw [run_slice_lhm W t _ n c hu .i64 .i64 .i64 0 n n (by omega) (by omega) (by omega) (by omega), hel]
  have hne : ¬ n = 0 := by omega
  simp [sizeOf, typeInfo, hi, hz.2.1, sliced, Result.andThen, hne, Addr.add]
section
variable {P : Program} {ops : Array Oper} {rest : List Oper} {o : Oper} {a : Act} {Q : Exit → Act → World → Prop} {W : World}
/-- '[]byte(s)', its row by its very world. -/
theorem conv_at (e : TypeId) (hgd : o.guard = none) {N : Tmp} (_hd : o.dst = some N) (src dst : TypeId) (x : Operand) (ho : o.op = .convert src dst x)
    (hs : P.underlying src = some .string) (hdd : P.underlying dst = some (.slice e)) (he : P.underlying e = some (.int .u8)) (s : ByteArray) (hx : a.eval x = .string s)
    (h : wpList P ops Q rest (a.put o.dst (.slice (some ⟨W.heap.size, 0, none⟩) s.size (grownCap W s.size 0 e))) (Lib.bytesWorld W e s)) : wpList P ops Q (o :: rest) a W :=
  Kd.event_run hgd (by simp [execOp, ho, hx, Lib.run_convert_string_bytes W src dst e s hs hdd he]) h
/-- 'b[0:n:n]' of a row of n bytes. -/
theorem cut_at (e : TypeId) (hgd : o.guard = none) {N : Tmp} (_hd : o.dst = some N) (t : TypeId) (x l h' m' : Operand) (ho : o.op = .slice t x (some l) (some h') (some m'))
    (ht : P.underlying t = some (.slice e)) (hinfo : (P.info? e).map (fun i => (i.zero, i.size, i.bytes)) = some (some (.int .u8 0), 1, 1)) (g n c : Nat) (m : Int) (hm : m = (n : Int)) (h0 : 0 < n) (hc : n ≤ c)
    (hx : a.eval x = .slice (some ⟨g, 0, none⟩) n c) (hl : a.eval l = .int .i64 0) (hh : a.eval h' = .int .i64 m) (hmm : a.eval m' = .int .i64 m)
    (h : wpList P ops Q rest (a.put o.dst (.slice (some ⟨g, 0, none⟩) n n)) W) : wpList P ops Q (o :: rest) a W :=
  Kd.event_run hgd (by have hel : P.elem t = e := by simp [Program.elem, ht]
                       simp [execOp, ho, hx, hl, hh, hmm, run_sliceAt_slice W t _ _ _ _ (show P.underlying t = some (.slice (P.elem t)) by rw [hel]; exact ht), cut_whole t e ht hinfo g n c m hm h0 hc]) h
end
section
variable {P : Program} {ops : Array Oper} {rest : List Oper} {o : Oper} {a : Act} {Q : Exit → Act → World → Prop} {W : World}
/-- 'make([]byte, 0, m)': an empty row of the call's own. -/
theorem make0_at (e : TypeId) (hgd : o.guard = none) {N : Tmp} (_hd : o.dst = some N) (t : TypeId) (x y : Operand) (ho : o.op = .makeSlice t x y) (m : Int) (hx : a.eval x = .int .i64 0) (hy : a.eval y = .int .i64 m)
    (ht : P.underlying t = some (.slice e)) (hinfo : (P.info? e).map (fun i => (i.zero, i.size, i.bytes)) = some (some (.int .u8 0), 1, 1)) (h0 : 0 ≤ m) (hl : m ≤ 281474976710656)
    (h : ∀ v1 w1, (Kd.int .u8).R e w1 W.heap.size (fun _ => True) v1 [] → Below W.heap.size W w1 → wpList P ops Q rest (a.put o.dst v1) w1) : wpList P ops Q (o :: rest) a W := by
  obtain ⟨i0, hi, hzz⟩ := Option.map_eq_some_iff.1 hinfo
  simp only [Prod.mk.injEq] at hzz
  obtain ⟨hz0, hz1, hz2⟩ := hzz
  have hr := run_make (P := P) W t e i0 (.int .u8 0) ht hi hz0 .i64 .i64 0 m (by omega) h0 (by rw [hz2]; omega) (by omega)
  refine Kd.event_run (v := .slice (some ⟨W.heap.size, 0, none⟩) 0 m.toNat) (w1 := W.alloc (.cells (madeCells (Value.int .u8 0).cells (m.toNat * i0.size)) e)) hgd (by simp [execOp, ho, hx, hy, hr]) (h _ _ ?_ (below_alloc (Below.refl _ _) _))
  refine Kd.R_of_own ⟨rfl, .inr ⟨W.heap.size, m.toNat, madeCells (Value.int .u8 0).cells (m.toNat * i0.size), rfl, Nat.le_refl _, blk_new W _, Nat.zero_le _, by simp [maxLen]; omega, by rw [size_madeCells, hz1], rfl⟩⟩ (fun _ _ => trivial)
end

/-- What 'intrusion/checksum.shifts' holds. -/
def TAB0 : List Int := [56, 48, 40, 32, 24, 16, 8, 0]
/-- The listed variables hold what the program lays them with. -/
def Laid (w : World) : Prop := (∀ j, j < 8 → w.cell? ⟨0, j, none⟩ = some (.int .u64 (TAB0.getD j 0)))
theorem laid_below {w w' : World} (h : Laid w) (hb : Below w.heap.size w w') : Laid w' := fun j hj => pw_cell_below hb (h j hj)
theorem laid_C0 {w : World} (h : Laid w) : Kd.C (Kd.int .u64) w (some ⟨0, 0, none⟩) TAB0.length TAB0 := Kd.C_of_reads (d := (0 : Int)) (h1 := fun _ => rfl) ⟨rfl, by decide, fun _ => ⟨_, rfl, fun j hj => by rw [add_plain]; exact h j hj⟩⟩

end Go.Proofs.YtdjbmfjeplheiaaDoor.X
