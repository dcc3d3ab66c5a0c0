/- What the functions of the translation that this claim's statement reaches compute, each proved by its walk. Written by xprint.py, a program of this claim's author, run over the kit's printer. -/
import Derived.Test.YtobioaommmgehaaProg
import Derived.Below
import Derived.Deep.Draws
import Derived.Deep.AppendLies
import Derived.Maps.AppendAt
import Derived.OwnWalk
import Derived.Laws.BytesArg
import Derived.Laws.MakeOwn
import Derived.Laws.OwnMore
import Derived.Deep.OwnRows
import Derived.Tactics
import Derived.Lib.ConvBytes
import Derived.Laws.Slices
import Derived.WalkKit
import Derived.KernelRfl
import Derived.RowKit3
import Derived.Deep.LoopGhost
import Derived.Deep.QuietTactic
import Derived.BigQuiet
import Derived.WideLaws
import Derived.Deep.DeepCutAuto
import Derived.Deep.CutBlock
import Derived.Deep.RegionHeld3
import Derived.Laws.Rows
import Derived.Lib.AppendStr
import Derived.ArgAppend
import Derived.Laws.IdiomCopy
import Derived.OrdersHeld
import Derived.Laws.BitsLemmas
import Derived.RowKit
import Derived.Sort.Row
import Derived.Sort.WalkB12
import Derived.Lib.SlicesMore
import Derived.WalkMore
import Derived.Deep.MidRow
import Derived.Lib.SliceRun
import Derived.Laws.EntriesVeiled
import Derived.FnLit
import Derived.LoopN
import Derived.Test.YtobioaommmgehaaShelf
import Derived.Test.YtobioaommmgehaaWWords
import Derived.Test.YtobioaommmgehaaWLast
import Derived.Test.YtobioaommmgehaaWTab
import Derived.Test.YtobioaommmgehaaWFour
import Derived.Test.YtobioaommmgehaaWQPut
import Derived.Test.YtobioaommmgehaaWApart
import Derived.Test.YtobioaommmgehaaWArr
import Derived.Test.YtobioaommmgehaaWZeros
import Derived.Test.YtobioaommmgehaaWFoot
import Derived.Test.YtobioaommmgehaaWKept
import Derived.Test.YtobioaommmgehaaWShare
import Derived.Test.YtobioaommmgehaaWN
import Derived.Test.YtobioaommmgehaaWFootNe
import Derived.Test.YtobioaommmgehaaWAt
import Derived.Test.YtobioaommmgehaaWEqStruct
import Derived.Test.YtobioaommmgehaaWRepsOne
import Derived.Test.YtobioaommmgehaaWInv
import Derived.Test.YtobioaommmgehaaWInvWords
import Derived.Test.YtobioaommmgehaaWGuard
import Derived.Test.YtobioaommmgehaaWNEv
import Derived.Test.YtobioaommmgehaaWMore
namespace Go.Proofs.Ytobioaommmgehaa.Z
open Go.RowKit Go.Proofs.YtobioaommmgehaaW.PrintWords Go.Proofs.YtobioaommmgehaaW.PrintLast Go.Proofs.YtobioaommmgehaaW.PrintMore
attribute [local go_sem] max2_int min2_int max_two min_two max_three min_three max_four min_four   -- for this text's walks alone
set_option linter.unusedVariables false
set_option linter.unusedSimpArgs false



def errW : Option Int → Value
  | none => .nilIface
  | some c => .iface 0 (.int .i64 c)
theorem errW_none : errW none = .nilIface := rfl
theorem errW_some (c : Int) : errW (some c) = .iface 0 (.int .i64 c) := rfl

theorem info5 : (Try.prog.info? 5).map (fun i => (i.zero, i.size, i.bytes)) = some (some (.int .u8 0), 1, 1) := by kernel_rfl
theorem info28 : (Try.prog.info? 28).map (fun i => (i.zero, i.size, i.bytes)) = some (some (.agg #[(.int .i64 0), (.int .i64 0), (.int .i64 0), (.int .i64 0), (.bool false), (.bool false), (.int .i64 0), (.bool false), (.int .u64 0), (.int .u64 0), (.bool false), (.int .u64 0), (.int .u64 0), (.slice none 0 0), (.string ⟨#[]⟩)]), 15, 136) := by kernel_rfl
theorem info50 : (Try.prog.info? 50).map (fun i => (i.zero, i.size, i.bytes)) = some (some (.agg #[(.int .i64 0), (.string ⟨#[]⟩)]), 2, 24) := by kernel_rfl
-- the values' own types
/-! #### struct type 50 -/
structure S50 where
  f0 : Int
  f1 : ByteArray
def z50 : S50 := ⟨(0 : Int), (⟨#[]⟩ : ByteArray)⟩
def k50 : Kd S50 := Kd.iso (Kd.pair (Kd.int .i64) Kd.string) (fun x : S50 => (x.f0, x.f1))
theorem k50_open {w : World} {x : S50} {cs : List Value} (h : k50.K w x cs) : cs = [.int .i64 x.f0, .string x.f1] := by
  obtain ⟨_, _, rfl, rfl, rfl⟩ := h
  exact rfl
theorem k50_openM {w : World} {base : Nat} {ok : Nat → Prop} {x : S50} {cs : List Value} (h : k50.M w base ok x cs) : cs = [.int .i64 x.f0, .string x.f1] := by
  obtain ⟨_, _, rfl, rfl, rfl⟩ := h
  exact rfl
theorem k50_mk (w : World) (x : S50)  : k50.K w x [.int .i64 x.f0, .string x.f1] := ⟨[.int .i64 x.f0], [.string x.f1], rfl, rfl, rfl⟩
theorem k50_mkM (w : World) (base : Nat) (ok : Nat → Prop) (x : S50)  : k50.M w base ok x [.int .i64 x.f0, .string x.f1] := ⟨[.int .i64 x.f0], [.string x.f1], rfl, rfl, rfl⟩
theorem k50_mkF (W : World) (ok : Nat → Prop) (x : S50) : Kd.FK k50 W ok x [.int .i64 x.f0, .string x.f1] := fun W2 _ => k50_mk W2 x
def rd_T50 (xs : List S50) (i : Int) : S50 := xs.getD i.toNat z50
theorem at_T50 {w : World} {A : Option Addr} {n : Nat} {xs : List S50} (h : Kd.C k50 w A n xs) (i : Int) (h0 : 0 ≤ i) (h1 : i < n) : ∃ ad , A = some ad ∧ w.cell? (ad.add (i.toNat * 2)) = some (.int .i64 (rd_T50 xs i).f0) ∧ w.cell? ⟨(ad.add (i.toNat * 2)).block, (ad.add (i.toNat * 2)).off + 1, none⟩ = some (.string (rd_T50 xs i).f1) := by
  obtain ⟨ad, c, e, _, hK, hc0⟩ := Kd.C_get h z50 i h0 h1
  have hc : ∀ j u, c[j]? = some u → w.cell? (ad.add (i.toNat * 2 + j)) = some u := hc0
  obtain rfl := k50_open hK
  exact ⟨ad, e, hc 0 _ rfl, by rw [← add_field _ _ 1 (by omega)]; exact hc 1 _ rfl⟩

/-! #### struct type 25 -/
structure S25 where
  f0 : Bool
  f1 : Int
  f2 : Int
def z25 : S25 := ⟨false, (0 : Int), (0 : Int)⟩
def k25 : Kd S25 := Kd.iso (Kd.pair Kd.bool (Kd.pair (Kd.int .u64) (Kd.int .u64))) (fun x : S25 => (x.f0, x.f1, x.f2))
theorem k25_open {w : World} {x : S25} {cs : List Value} (h : k25.K w x cs) : cs = [.bool x.f0, .int .u64 x.f1, .int .u64 x.f2] := by
  obtain ⟨_, _, rfl, rfl, ⟨_, _, rfl, rfl, rfl⟩⟩ := h
  exact rfl
theorem k25_openM {w : World} {base : Nat} {ok : Nat → Prop} {x : S25} {cs : List Value} (h : k25.M w base ok x cs) : cs = [.bool x.f0, .int .u64 x.f1, .int .u64 x.f2] := by
  obtain ⟨_, _, rfl, rfl, ⟨_, _, rfl, rfl, rfl⟩⟩ := h
  exact rfl
theorem k25_mk (w : World) (x : S25)  : k25.K w x [.bool x.f0, .int .u64 x.f1, .int .u64 x.f2] := ⟨[.bool x.f0], [.int .u64 x.f1, .int .u64 x.f2], rfl, rfl, ⟨[.int .u64 x.f1], [.int .u64 x.f2], rfl, rfl, rfl⟩⟩
theorem k25_mkM (w : World) (base : Nat) (ok : Nat → Prop) (x : S25)  : k25.M w base ok x [.bool x.f0, .int .u64 x.f1, .int .u64 x.f2] := ⟨[.bool x.f0], [.int .u64 x.f1, .int .u64 x.f2], rfl, rfl, ⟨[.int .u64 x.f1], [.int .u64 x.f2], rfl, rfl, rfl⟩⟩
theorem k25_mkF (W : World) (ok : Nat → Prop) (x : S25) : Kd.FK k25 W ok x [.bool x.f0, .int .u64 x.f1, .int .u64 x.f2] := fun W2 _ => k25_mk W2 x
def rd_T25 (xs : List S25) (i : Int) : S25 := xs.getD i.toNat z25
theorem at_T25 {w : World} {A : Option Addr} {n : Nat} {xs : List S25} (h : Kd.C k25 w A n xs) (i : Int) (h0 : 0 ≤ i) (h1 : i < n) : ∃ ad , A = some ad ∧ w.cell? (ad.add (i.toNat * 3)) = some (.bool (rd_T25 xs i).f0) ∧ w.cell? ⟨(ad.add (i.toNat * 3)).block, (ad.add (i.toNat * 3)).off + 1, none⟩ = some (.int .u64 (rd_T25 xs i).f1) ∧ w.cell? ⟨(ad.add (i.toNat * 3)).block, (ad.add (i.toNat * 3)).off + 2, none⟩ = some (.int .u64 (rd_T25 xs i).f2) := by
  obtain ⟨ad, c, e, _, hK, hc0⟩ := Kd.C_get h z25 i h0 h1
  have hc : ∀ j u, c[j]? = some u → w.cell? (ad.add (i.toNat * 3 + j)) = some u := hc0
  obtain rfl := k25_open hK
  exact ⟨ad, e, hc 0 _ rfl, by rw [← add_field _ _ 1 (by omega)]; exact hc 1 _ rfl, by rw [← add_field _ _ 2 (by omega)]; exact hc 2 _ rfl⟩

def rd_L7 (xs : List (List S50)) (i : Int) : (List S50) := xs.getD i.toNat ([] : List S50)
theorem at_L7 {w : World} {A : Option Addr} {n : Nat} {xs : List (List S50)} (h : Kd.C (Kd.slice 50 k50) w A n xs) (i : Int) (h0 : 0 ≤ i) (h1 : i < n) : ∃ ad A0 c0, A = some ad ∧ w.cell? (ad.add i.toNat) = some (.slice A0 (rd_L7 xs i).length c0) ∧ (rd_L7 xs i).length ≤ c0 ∧ k50.C w A0 (rd_L7 xs i).length (rd_L7 xs i) := by
  obtain ⟨ad, c, e, _, hK, hc0⟩ := Kd.C_get h ([] : List S50) i h0 h1
  have hc : ∀ j u, c[j]? = some u → w.cell? (ad.add (i.toNat * 1 + j)) = some u := hc0
  obtain ⟨A0, c0, rfl, l0, g0⟩ := hK
  exact ⟨ad, A0, c0, e, by have hq := hc 0 _ rfl; rwa [Nat.mul_one, Nat.add_zero] at hq, l0, g0⟩

/-! #### struct type 28 -/
structure S28 where
  f0 : Int
  f1 : Int
  f2 : Int
  f3 : Int
  f4 : Bool
  f5 : Bool
  f6 : Int
  f7 : S25
  f8 : S25
  f9 : (List S50)
  f10 : ByteArray
def z28 : S28 := ⟨(0 : Int), (0 : Int), (0 : Int), (0 : Int), false, false, (0 : Int), z25, z25, ([] : List S50), (⟨#[]⟩ : ByteArray)⟩
def k28 : Kd S28 := Kd.iso (Kd.pair (Kd.int .i64) (Kd.pair (Kd.int .i64) (Kd.pair (Kd.int .i64) (Kd.pair (Kd.int .i64) (Kd.pair Kd.bool (Kd.pair Kd.bool (Kd.pair (Kd.int .i64) (Kd.pair k25 (Kd.pair k25 (Kd.pair (Kd.slice 50 k50) Kd.string)))))))))) (fun x : S28 => (x.f0, x.f1, x.f2, x.f3, x.f4, x.f5, x.f6, x.f7, x.f8, x.f9, x.f10))
theorem k28_open {w : World} {x : S28} {cs : List Value} (h : k28.K w x cs) : ∃ A13 c13, cs = [.int .i64 x.f0, .int .i64 x.f1, .int .i64 x.f2, .int .i64 x.f3, .bool x.f4, .bool x.f5, .int .i64 x.f6, .bool x.f7.f0, .int .u64 x.f7.f1, .int .u64 x.f7.f2, .bool x.f8.f0, .int .u64 x.f8.f1, .int .u64 x.f8.f2, .slice A13 x.f9.length c13, .string x.f10] ∧ x.f9.length ≤ c13 ∧ k50.C w A13 x.f9.length x.f9 := by
  obtain ⟨_, _, rfl, rfl, ⟨_, _, rfl, rfl, ⟨_, _, rfl, rfl, ⟨_, _, rfl, rfl, ⟨_, _, rfl, rfl, ⟨_, _, rfl, rfl, ⟨_, _, rfl, rfl, ⟨_, _, rfl, s7, ⟨_, _, rfl, s10, ⟨_, _, rfl, ⟨A13, c13, rfl, l13, g13⟩, rfl⟩⟩⟩⟩⟩⟩⟩⟩⟩⟩ := h
  obtain rfl := k25_open s7
  obtain rfl := k25_open s10
  exact ⟨A13, c13, rfl, l13, g13⟩
theorem k28_openM {w : World} {base : Nat} {ok : Nat → Prop} {x : S28} {cs : List Value} (h : k28.M w base ok x cs) : ∃ v13, cs = [.int .i64 x.f0, .int .i64 x.f1, .int .i64 x.f2, .int .i64 x.f3, .bool x.f4, .bool x.f5, .int .i64 x.f6, .bool x.f7.f0, .int .u64 x.f7.f1, .int .u64 x.f7.f2, .bool x.f8.f0, .int .u64 x.f8.f1, .int .u64 x.f8.f2, v13, .string x.f10] ∧ k50.R 50 w base ok v13 x.f9 := by
  obtain ⟨_, _, rfl, rfl, ⟨_, _, rfl, rfl, ⟨_, _, rfl, rfl, ⟨_, _, rfl, rfl, ⟨_, _, rfl, rfl, ⟨_, _, rfl, rfl, ⟨_, _, rfl, rfl, ⟨_, _, rfl, s7, ⟨_, _, rfl, s10, ⟨_, _, rfl, ⟨v13, rfl, g13⟩, rfl⟩⟩⟩⟩⟩⟩⟩⟩⟩⟩ := h
  obtain rfl := k25_openM s7
  obtain rfl := k25_openM s10
  exact ⟨v13, rfl, g13⟩
theorem k28_mk (w : World) (x : S28) {A13 : Option Addr} {c13 : Nat} (l13 : x.f9.length ≤ c13) (g13 : k50.C w A13 x.f9.length x.f9) : k28.K w x [.int .i64 x.f0, .int .i64 x.f1, .int .i64 x.f2, .int .i64 x.f3, .bool x.f4, .bool x.f5, .int .i64 x.f6, .bool x.f7.f0, .int .u64 x.f7.f1, .int .u64 x.f7.f2, .bool x.f8.f0, .int .u64 x.f8.f1, .int .u64 x.f8.f2, .slice A13 x.f9.length c13, .string x.f10] := ⟨[.int .i64 x.f0], [.int .i64 x.f1, .int .i64 x.f2, .int .i64 x.f3, .bool x.f4, .bool x.f5, .int .i64 x.f6, .bool x.f7.f0, .int .u64 x.f7.f1, .int .u64 x.f7.f2, .bool x.f8.f0, .int .u64 x.f8.f1, .int .u64 x.f8.f2, .slice A13 x.f9.length c13, .string x.f10], rfl, rfl, ⟨[.int .i64 x.f1], [.int .i64 x.f2, .int .i64 x.f3, .bool x.f4, .bool x.f5, .int .i64 x.f6, .bool x.f7.f0, .int .u64 x.f7.f1, .int .u64 x.f7.f2, .bool x.f8.f0, .int .u64 x.f8.f1, .int .u64 x.f8.f2, .slice A13 x.f9.length c13, .string x.f10], rfl, rfl, ⟨[.int .i64 x.f2], [.int .i64 x.f3, .bool x.f4, .bool x.f5, .int .i64 x.f6, .bool x.f7.f0, .int .u64 x.f7.f1, .int .u64 x.f7.f2, .bool x.f8.f0, .int .u64 x.f8.f1, .int .u64 x.f8.f2, .slice A13 x.f9.length c13, .string x.f10], rfl, rfl, ⟨[.int .i64 x.f3], [.bool x.f4, .bool x.f5, .int .i64 x.f6, .bool x.f7.f0, .int .u64 x.f7.f1, .int .u64 x.f7.f2, .bool x.f8.f0, .int .u64 x.f8.f1, .int .u64 x.f8.f2, .slice A13 x.f9.length c13, .string x.f10], rfl, rfl, ⟨[.bool x.f4], [.bool x.f5, .int .i64 x.f6, .bool x.f7.f0, .int .u64 x.f7.f1, .int .u64 x.f7.f2, .bool x.f8.f0, .int .u64 x.f8.f1, .int .u64 x.f8.f2, .slice A13 x.f9.length c13, .string x.f10], rfl, rfl, ⟨[.bool x.f5], [.int .i64 x.f6, .bool x.f7.f0, .int .u64 x.f7.f1, .int .u64 x.f7.f2, .bool x.f8.f0, .int .u64 x.f8.f1, .int .u64 x.f8.f2, .slice A13 x.f9.length c13, .string x.f10], rfl, rfl, ⟨[.int .i64 x.f6], [.bool x.f7.f0, .int .u64 x.f7.f1, .int .u64 x.f7.f2, .bool x.f8.f0, .int .u64 x.f8.f1, .int .u64 x.f8.f2, .slice A13 x.f9.length c13, .string x.f10], rfl, rfl, ⟨[.bool x.f7.f0, .int .u64 x.f7.f1, .int .u64 x.f7.f2], [.bool x.f8.f0, .int .u64 x.f8.f1, .int .u64 x.f8.f2, .slice A13 x.f9.length c13, .string x.f10], rfl, (k25_mk w x.f7 ), ⟨[.bool x.f8.f0, .int .u64 x.f8.f1, .int .u64 x.f8.f2], [.slice A13 x.f9.length c13, .string x.f10], rfl, (k25_mk w x.f8 ), ⟨[.slice A13 x.f9.length c13], [.string x.f10], rfl, ⟨A13, c13, rfl, l13, g13⟩, rfl⟩⟩⟩⟩⟩⟩⟩⟩⟩⟩
theorem k28_mkM (w : World) (base : Nat) (ok : Nat → Prop) (x : S28) {v13 : Value} (g13 : k50.R 50 w base ok v13 x.f9) : k28.M w base ok x [.int .i64 x.f0, .int .i64 x.f1, .int .i64 x.f2, .int .i64 x.f3, .bool x.f4, .bool x.f5, .int .i64 x.f6, .bool x.f7.f0, .int .u64 x.f7.f1, .int .u64 x.f7.f2, .bool x.f8.f0, .int .u64 x.f8.f1, .int .u64 x.f8.f2, v13, .string x.f10] := ⟨[.int .i64 x.f0], [.int .i64 x.f1, .int .i64 x.f2, .int .i64 x.f3, .bool x.f4, .bool x.f5, .int .i64 x.f6, .bool x.f7.f0, .int .u64 x.f7.f1, .int .u64 x.f7.f2, .bool x.f8.f0, .int .u64 x.f8.f1, .int .u64 x.f8.f2, v13, .string x.f10], rfl, rfl, ⟨[.int .i64 x.f1], [.int .i64 x.f2, .int .i64 x.f3, .bool x.f4, .bool x.f5, .int .i64 x.f6, .bool x.f7.f0, .int .u64 x.f7.f1, .int .u64 x.f7.f2, .bool x.f8.f0, .int .u64 x.f8.f1, .int .u64 x.f8.f2, v13, .string x.f10], rfl, rfl, ⟨[.int .i64 x.f2], [.int .i64 x.f3, .bool x.f4, .bool x.f5, .int .i64 x.f6, .bool x.f7.f0, .int .u64 x.f7.f1, .int .u64 x.f7.f2, .bool x.f8.f0, .int .u64 x.f8.f1, .int .u64 x.f8.f2, v13, .string x.f10], rfl, rfl, ⟨[.int .i64 x.f3], [.bool x.f4, .bool x.f5, .int .i64 x.f6, .bool x.f7.f0, .int .u64 x.f7.f1, .int .u64 x.f7.f2, .bool x.f8.f0, .int .u64 x.f8.f1, .int .u64 x.f8.f2, v13, .string x.f10], rfl, rfl, ⟨[.bool x.f4], [.bool x.f5, .int .i64 x.f6, .bool x.f7.f0, .int .u64 x.f7.f1, .int .u64 x.f7.f2, .bool x.f8.f0, .int .u64 x.f8.f1, .int .u64 x.f8.f2, v13, .string x.f10], rfl, rfl, ⟨[.bool x.f5], [.int .i64 x.f6, .bool x.f7.f0, .int .u64 x.f7.f1, .int .u64 x.f7.f2, .bool x.f8.f0, .int .u64 x.f8.f1, .int .u64 x.f8.f2, v13, .string x.f10], rfl, rfl, ⟨[.int .i64 x.f6], [.bool x.f7.f0, .int .u64 x.f7.f1, .int .u64 x.f7.f2, .bool x.f8.f0, .int .u64 x.f8.f1, .int .u64 x.f8.f2, v13, .string x.f10], rfl, rfl, ⟨[.bool x.f7.f0, .int .u64 x.f7.f1, .int .u64 x.f7.f2], [.bool x.f8.f0, .int .u64 x.f8.f1, .int .u64 x.f8.f2, v13, .string x.f10], rfl, (k25_mkM w base ok x.f7 ), ⟨[.bool x.f8.f0, .int .u64 x.f8.f1, .int .u64 x.f8.f2], [v13, .string x.f10], rfl, (k25_mkM w base ok x.f8 ), ⟨[v13], [.string x.f10], rfl, ⟨v13, rfl, g13⟩, rfl⟩⟩⟩⟩⟩⟩⟩⟩⟩⟩
theorem k28_openF {W : World} {ok : Nat → Prop} {x : S28} {cs : List Value} (h : Kd.FK k28 W ok x cs) : ∃ A13 c13, cs = [.int .i64 x.f0, .int .i64 x.f1, .int .i64 x.f2, .int .i64 x.f3, .bool x.f4, .bool x.f5, .int .i64 x.f6, .bool x.f7.f0, .int .u64 x.f7.f1, .int .u64 x.f7.f2, .bool x.f8.f0, .int .u64 x.f8.f1, .int .u64 x.f8.f2, .slice A13 x.f9.length c13, .string x.f10] ∧ x.f9.length ≤ c13 ∧ Kd.F k50 W ok A13 x.f9.length x.f9 := by
  obtain ⟨A13, c13, rfl, l13, _⟩ := k28_open (Kd.FK_now h)
  exact ⟨A13, c13, rfl, l13, (fun W' hW => by obtain ⟨A13_, c13_, he, l13_, g13_⟩ := k28_open (h W' hW); injection (Option.some.inj (show some (Value.slice A13 x.f9.length c13) = some (Value.slice A13_ x.f9.length c13_) from congrArg (fun l => l[13]?) he)) with ha_ _ _; rw [ha_]; exact g13_)⟩
theorem k28_mkF (W : World) (ok : Nat → Prop) (x : S28) {A13 : Option Addr} {c13 : Nat} (l13 : x.f9.length ≤ c13) (g13 : Kd.F k50 W ok A13 x.f9.length x.f9) : Kd.FK k28 W ok x [.int .i64 x.f0, .int .i64 x.f1, .int .i64 x.f2, .int .i64 x.f3, .bool x.f4, .bool x.f5, .int .i64 x.f6, .bool x.f7.f0, .int .u64 x.f7.f1, .int .u64 x.f7.f2, .bool x.f8.f0, .int .u64 x.f8.f1, .int .u64 x.f8.f2, .slice A13 x.f9.length c13, .string x.f10] := fun W2 hW => k28_mk W2 x l13 (g13 W2 hW)
def rd_T28 (xs : List S28) (i : Int) : S28 := xs.getD i.toNat z28
theorem at_T28 {w : World} {A : Option Addr} {n : Nat} {xs : List S28} (h : Kd.C k28 w A n xs) (i : Int) (h0 : 0 ≤ i) (h1 : i < n) : ∃ ad A13 c13, A = some ad ∧ w.cell? (ad.add (i.toNat * 15)) = some (.int .i64 (rd_T28 xs i).f0) ∧ w.cell? ⟨(ad.add (i.toNat * 15)).block, (ad.add (i.toNat * 15)).off + 1, none⟩ = some (.int .i64 (rd_T28 xs i).f1) ∧ w.cell? ⟨(ad.add (i.toNat * 15)).block, (ad.add (i.toNat * 15)).off + 2, none⟩ = some (.int .i64 (rd_T28 xs i).f2) ∧ w.cell? ⟨(ad.add (i.toNat * 15)).block, (ad.add (i.toNat * 15)).off + 3, none⟩ = some (.int .i64 (rd_T28 xs i).f3) ∧ w.cell? ⟨(ad.add (i.toNat * 15)).block, (ad.add (i.toNat * 15)).off + 4, none⟩ = some (.bool (rd_T28 xs i).f4) ∧ w.cell? ⟨(ad.add (i.toNat * 15)).block, (ad.add (i.toNat * 15)).off + 5, none⟩ = some (.bool (rd_T28 xs i).f5) ∧ w.cell? ⟨(ad.add (i.toNat * 15)).block, (ad.add (i.toNat * 15)).off + 6, none⟩ = some (.int .i64 (rd_T28 xs i).f6) ∧ w.cell? ⟨(ad.add (i.toNat * 15)).block, (ad.add (i.toNat * 15)).off + 7, none⟩ = some (.bool (rd_T28 xs i).f7.f0) ∧ w.cell? ⟨(ad.add (i.toNat * 15)).block, (ad.add (i.toNat * 15)).off + 8, none⟩ = some (.int .u64 (rd_T28 xs i).f7.f1) ∧ w.cell? ⟨(ad.add (i.toNat * 15)).block, (ad.add (i.toNat * 15)).off + 9, none⟩ = some (.int .u64 (rd_T28 xs i).f7.f2) ∧ w.cell? ⟨(ad.add (i.toNat * 15)).block, (ad.add (i.toNat * 15)).off + 10, none⟩ = some (.bool (rd_T28 xs i).f8.f0) ∧ w.cell? ⟨(ad.add (i.toNat * 15)).block, (ad.add (i.toNat * 15)).off + 11, none⟩ = some (.int .u64 (rd_T28 xs i).f8.f1) ∧ w.cell? ⟨(ad.add (i.toNat * 15)).block, (ad.add (i.toNat * 15)).off + 12, none⟩ = some (.int .u64 (rd_T28 xs i).f8.f2) ∧ w.cell? ⟨(ad.add (i.toNat * 15)).block, (ad.add (i.toNat * 15)).off + 13, none⟩ = some (.slice A13 (rd_T28 xs i).f9.length c13) ∧ w.cell? ⟨(ad.add (i.toNat * 15)).block, (ad.add (i.toNat * 15)).off + 14, none⟩ = some (.string (rd_T28 xs i).f10) ∧ (rd_T28 xs i).f9.length ≤ c13 ∧ k50.C w A13 (rd_T28 xs i).f9.length (rd_T28 xs i).f9 := by
  obtain ⟨ad, c, e, _, hK, hc0⟩ := Kd.C_get h z28 i h0 h1
  have hc : ∀ j u, c[j]? = some u → w.cell? (ad.add (i.toNat * 15 + j)) = some u := hc0
  obtain ⟨A13, c13, rfl, l13, g13⟩ := k28_open hK
  exact ⟨ad, A13, c13, e, hc 0 _ rfl, by rw [← add_field _ _ 1 (by omega)]; exact hc 1 _ rfl, by rw [← add_field _ _ 2 (by omega)]; exact hc 2 _ rfl, by rw [← add_field _ _ 3 (by omega)]; exact hc 3 _ rfl, by rw [← add_field _ _ 4 (by omega)]; exact hc 4 _ rfl, by rw [← add_field _ _ 5 (by omega)]; exact hc 5 _ rfl, by rw [← add_field _ _ 6 (by omega)]; exact hc 6 _ rfl, by rw [← add_field _ _ 7 (by omega)]; exact hc 7 _ rfl, by rw [← add_field _ _ 8 (by omega)]; exact hc 8 _ rfl, by rw [← add_field _ _ 9 (by omega)]; exact hc 9 _ rfl, by rw [← add_field _ _ 10 (by omega)]; exact hc 10 _ rfl, by rw [← add_field _ _ 11 (by omega)]; exact hc 11 _ rfl, by rw [← add_field _ _ 12 (by omega)]; exact hc 12 _ rfl, by rw [← add_field _ _ 13 (by omega)]; exact hc 13 _ rfl, by rw [← add_field _ _ 14 (by omega)]; exact hc 14 _ rfl, l13, g13⟩

theorem Kd.R_puts_0_12 {α : Type} {d : Kd α} {e : Nat} {base : Nat} {ok : Nat → Prop} {v : Value} {xs : List α} (g : Nat) {w : World} (x0 x1 x2 x3 x4 x5 x6 x7 x8 x9 x10 x11 : Value) (h : d.R e w base ok v xs) (hok : ∀ k, ok k → k ≠ g) : d.R e ((((((((((((w.setCell ⟨g, 0, none⟩ x0).setCell ⟨g, 1, none⟩ x1).setCell ⟨g, 2, none⟩ x2).setCell ⟨g, 3, none⟩ x3).setCell ⟨g, 4, none⟩ x4).setCell ⟨g, 5, none⟩ x5).setCell ⟨g, 6, none⟩ x6).setCell ⟨g, 7, none⟩ x7).setCell ⟨g, 8, none⟩ x8).setCell ⟨g, 9, none⟩ x9).setCell ⟨g, 10, none⟩ x10).setCell ⟨g, 11, none⟩ x11) base ok v xs :=
  (Kd.R_far (p := ⟨g, 11, none⟩) (Kd.R_far (p := ⟨g, 10, none⟩) (Kd.R_far (p := ⟨g, 9, none⟩) (Kd.R_far (p := ⟨g, 8, none⟩) (Kd.R_far (p := ⟨g, 7, none⟩) (Kd.R_far (p := ⟨g, 6, none⟩) (Kd.R_far (p := ⟨g, 5, none⟩) (Kd.R_far (p := ⟨g, 4, none⟩) (Kd.R_far (p := ⟨g, 3, none⟩) (Kd.R_far (p := ⟨g, 2, none⟩) (Kd.R_far (p := ⟨g, 1, none⟩) (Kd.R_far (p := ⟨g, 0, none⟩) h hok x0) hok x1) hok x2) hok x3) hok x4) hok x5) hok x6) hok x7) hok x8) hok x9) hok x10) hok x11)
theorem Kd.R_puts_0_15 {α : Type} {d : Kd α} {e : Nat} {base : Nat} {ok : Nat → Prop} {v : Value} {xs : List α} (g : Nat) {w : World} (x0 x1 x2 x3 x4 x5 x6 x7 x8 x9 x10 x11 x12 x13 x14 : Value) (h : d.R e w base ok v xs) (hok : ∀ k, ok k → k ≠ g) : d.R e (((((((((((((((w.setCell ⟨g, 0, none⟩ x0).setCell ⟨g, 1, none⟩ x1).setCell ⟨g, 2, none⟩ x2).setCell ⟨g, 3, none⟩ x3).setCell ⟨g, 4, none⟩ x4).setCell ⟨g, 5, none⟩ x5).setCell ⟨g, 6, none⟩ x6).setCell ⟨g, 7, none⟩ x7).setCell ⟨g, 8, none⟩ x8).setCell ⟨g, 9, none⟩ x9).setCell ⟨g, 10, none⟩ x10).setCell ⟨g, 11, none⟩ x11).setCell ⟨g, 12, none⟩ x12).setCell ⟨g, 13, none⟩ x13).setCell ⟨g, 14, none⟩ x14) base ok v xs :=
  (Kd.R_far (p := ⟨g, 14, none⟩) (Kd.R_far (p := ⟨g, 13, none⟩) (Kd.R_far (p := ⟨g, 12, none⟩) (Kd.R_far (p := ⟨g, 11, none⟩) (Kd.R_far (p := ⟨g, 10, none⟩) (Kd.R_far (p := ⟨g, 9, none⟩) (Kd.R_far (p := ⟨g, 8, none⟩) (Kd.R_far (p := ⟨g, 7, none⟩) (Kd.R_far (p := ⟨g, 6, none⟩) (Kd.R_far (p := ⟨g, 5, none⟩) (Kd.R_far (p := ⟨g, 4, none⟩) (Kd.R_far (p := ⟨g, 3, none⟩) (Kd.R_far (p := ⟨g, 2, none⟩) (Kd.R_far (p := ⟨g, 1, none⟩) (Kd.R_far (p := ⟨g, 0, none⟩) h hok x0) hok x1) hok x2) hok x3) hok x4) hok x5) hok x6) hok x7) hok x8) hok x9) hok x10) hok x11) hok x12) hok x13) hok x14)
theorem Kd.R_puts_4_3 {α : Type} {d : Kd α} {e : Nat} {base : Nat} {ok : Nat → Prop} {v : Value} {xs : List α} (g : Nat) {w : World} (x0 x1 x2 : Value) (h : d.R e w base ok v xs) (hok : ∀ k, ok k → k ≠ g) : d.R e (((w.setCell ⟨g, 4, none⟩ x0).setCell ⟨g, 5, none⟩ x1).setCell ⟨g, 6, none⟩ x2) base ok v xs :=
  (Kd.R_far (p := ⟨g, 6, none⟩) (Kd.R_far (p := ⟨g, 5, none⟩) (Kd.R_far (p := ⟨g, 4, none⟩) h hok x0) hok x1) hok x2)
theorem Kd.S_puts_0_12 {α : Type} {d : Kd α} {e : Nat} {base : Nat} {ok : Nat → Prop} {v : Value} {xs : List α} (g : Nat) {w : World} (x0 x1 x2 x3 x4 x5 x6 x7 x8 x9 x10 x11 : Value) (h : Kd.S d e w base ok v xs) (hok : ∀ k, ok k → k ≠ g) : Kd.S d e ((((((((((((w.setCell ⟨g, 0, none⟩ x0).setCell ⟨g, 1, none⟩ x1).setCell ⟨g, 2, none⟩ x2).setCell ⟨g, 3, none⟩ x3).setCell ⟨g, 4, none⟩ x4).setCell ⟨g, 5, none⟩ x5).setCell ⟨g, 6, none⟩ x6).setCell ⟨g, 7, none⟩ x7).setCell ⟨g, 8, none⟩ x8).setCell ⟨g, 9, none⟩ x9).setCell ⟨g, 10, none⟩ x10).setCell ⟨g, 11, none⟩ x11) base ok v xs :=
  (Kd.S_far (p := ⟨g, 11, none⟩) (Kd.S_far (p := ⟨g, 10, none⟩) (Kd.S_far (p := ⟨g, 9, none⟩) (Kd.S_far (p := ⟨g, 8, none⟩) (Kd.S_far (p := ⟨g, 7, none⟩) (Kd.S_far (p := ⟨g, 6, none⟩) (Kd.S_far (p := ⟨g, 5, none⟩) (Kd.S_far (p := ⟨g, 4, none⟩) (Kd.S_far (p := ⟨g, 3, none⟩) (Kd.S_far (p := ⟨g, 2, none⟩) (Kd.S_far (p := ⟨g, 1, none⟩) (Kd.S_far (p := ⟨g, 0, none⟩) h hok x0) hok x1) hok x2) hok x3) hok x4) hok x5) hok x6) hok x7) hok x8) hok x9) hok x10) hok x11)
theorem Kd.S_puts_0_15 {α : Type} {d : Kd α} {e : Nat} {base : Nat} {ok : Nat → Prop} {v : Value} {xs : List α} (g : Nat) {w : World} (x0 x1 x2 x3 x4 x5 x6 x7 x8 x9 x10 x11 x12 x13 x14 : Value) (h : Kd.S d e w base ok v xs) (hok : ∀ k, ok k → k ≠ g) : Kd.S d e (((((((((((((((w.setCell ⟨g, 0, none⟩ x0).setCell ⟨g, 1, none⟩ x1).setCell ⟨g, 2, none⟩ x2).setCell ⟨g, 3, none⟩ x3).setCell ⟨g, 4, none⟩ x4).setCell ⟨g, 5, none⟩ x5).setCell ⟨g, 6, none⟩ x6).setCell ⟨g, 7, none⟩ x7).setCell ⟨g, 8, none⟩ x8).setCell ⟨g, 9, none⟩ x9).setCell ⟨g, 10, none⟩ x10).setCell ⟨g, 11, none⟩ x11).setCell ⟨g, 12, none⟩ x12).setCell ⟨g, 13, none⟩ x13).setCell ⟨g, 14, none⟩ x14) base ok v xs :=
  (Kd.S_far (p := ⟨g, 14, none⟩) (Kd.S_far (p := ⟨g, 13, none⟩) (Kd.S_far (p := ⟨g, 12, none⟩) (Kd.S_far (p := ⟨g, 11, none⟩) (Kd.S_far (p := ⟨g, 10, none⟩) (Kd.S_far (p := ⟨g, 9, none⟩) (Kd.S_far (p := ⟨g, 8, none⟩) (Kd.S_far (p := ⟨g, 7, none⟩) (Kd.S_far (p := ⟨g, 6, none⟩) (Kd.S_far (p := ⟨g, 5, none⟩) (Kd.S_far (p := ⟨g, 4, none⟩) (Kd.S_far (p := ⟨g, 3, none⟩) (Kd.S_far (p := ⟨g, 2, none⟩) (Kd.S_far (p := ⟨g, 1, none⟩) (Kd.S_far (p := ⟨g, 0, none⟩) h hok x0) hok x1) hok x2) hok x3) hok x4) hok x5) hok x6) hok x7) hok x8) hok x9) hok x10) hok x11) hok x12) hok x13) hok x14)
theorem blk_all_3 {g : Nat} {t : TypeId} {w : World} {cs : Array Value} {x0 x1 x2 : Value} (h : w.heap[g]? = some (.cells cs t (0, 0))) (e : cs.size = 3) : (((w.setCell ⟨g, 0, none⟩ x0).setCell ⟨g, 1, none⟩ x1).setCell ⟨g, 2, none⟩ x2).heap[g]? = some (.cells #[x0, x1, x2] t (0, 0)) := by
  obtain ⟨l⟩ := cs
  match l, e with
  | [y0, y1, y2], _ => exact (blk_put (cs' := #[x0, x1, x2]) (blk_put (cs' := #[x0, x1, y2]) (blk_put (cs' := #[x0, y1, y2]) h 0 x0 rfl) 1 x1 rfl) 2 x2 rfl)
theorem blk_all_12 {g : Nat} {t : TypeId} {w : World} {cs : Array Value} {x0 x1 x2 x3 x4 x5 x6 x7 x8 x9 x10 x11 : Value} (h : w.heap[g]? = some (.cells cs t (0, 0))) (e : cs.size = 12) : ((((((((((((w.setCell ⟨g, 0, none⟩ x0).setCell ⟨g, 1, none⟩ x1).setCell ⟨g, 2, none⟩ x2).setCell ⟨g, 3, none⟩ x3).setCell ⟨g, 4, none⟩ x4).setCell ⟨g, 5, none⟩ x5).setCell ⟨g, 6, none⟩ x6).setCell ⟨g, 7, none⟩ x7).setCell ⟨g, 8, none⟩ x8).setCell ⟨g, 9, none⟩ x9).setCell ⟨g, 10, none⟩ x10).setCell ⟨g, 11, none⟩ x11).heap[g]? = some (.cells #[x0, x1, x2, x3, x4, x5, x6, x7, x8, x9, x10, x11] t (0, 0)) := by
  obtain ⟨l⟩ := cs
  match l, e with
  | [y0, y1, y2, y3, y4, y5, y6, y7, y8, y9, y10, y11], _ => exact (blk_put (cs' := #[x0, x1, x2, x3, x4, x5, x6, x7, x8, x9, x10, x11]) (blk_put (cs' := #[x0, x1, x2, x3, x4, x5, x6, x7, x8, x9, x10, y11]) (blk_put (cs' := #[x0, x1, x2, x3, x4, x5, x6, x7, x8, x9, y10, y11]) (blk_put (cs' := #[x0, x1, x2, x3, x4, x5, x6, x7, x8, y9, y10, y11]) (blk_put (cs' := #[x0, x1, x2, x3, x4, x5, x6, x7, y8, y9, y10, y11]) (blk_put (cs' := #[x0, x1, x2, x3, x4, x5, x6, y7, y8, y9, y10, y11]) (blk_put (cs' := #[x0, x1, x2, x3, x4, x5, y6, y7, y8, y9, y10, y11]) (blk_put (cs' := #[x0, x1, x2, x3, x4, y5, y6, y7, y8, y9, y10, y11]) (blk_put (cs' := #[x0, x1, x2, x3, y4, y5, y6, y7, y8, y9, y10, y11]) (blk_put (cs' := #[x0, x1, x2, y3, y4, y5, y6, y7, y8, y9, y10, y11]) (blk_put (cs' := #[x0, x1, y2, y3, y4, y5, y6, y7, y8, y9, y10, y11]) (blk_put (cs' := #[x0, y1, y2, y3, y4, y5, y6, y7, y8, y9, y10, y11]) h 0 x0 rfl) 1 x1 rfl) 2 x2 rfl) 3 x3 rfl) 4 x4 rfl) 5 x5 rfl) 6 x6 rfl) 7 x7 rfl) 8 x8 rfl) 9 x9 rfl) 10 x10 rfl) 11 x11 rfl)
theorem blk_all_15 {g : Nat} {t : TypeId} {w : World} {cs : Array Value} {x0 x1 x2 x3 x4 x5 x6 x7 x8 x9 x10 x11 x12 x13 x14 : Value} (h : w.heap[g]? = some (.cells cs t (0, 0))) (e : cs.size = 15) : (((((((((((((((w.setCell ⟨g, 0, none⟩ x0).setCell ⟨g, 1, none⟩ x1).setCell ⟨g, 2, none⟩ x2).setCell ⟨g, 3, none⟩ x3).setCell ⟨g, 4, none⟩ x4).setCell ⟨g, 5, none⟩ x5).setCell ⟨g, 6, none⟩ x6).setCell ⟨g, 7, none⟩ x7).setCell ⟨g, 8, none⟩ x8).setCell ⟨g, 9, none⟩ x9).setCell ⟨g, 10, none⟩ x10).setCell ⟨g, 11, none⟩ x11).setCell ⟨g, 12, none⟩ x12).setCell ⟨g, 13, none⟩ x13).setCell ⟨g, 14, none⟩ x14).heap[g]? = some (.cells #[x0, x1, x2, x3, x4, x5, x6, x7, x8, x9, x10, x11, x12, x13, x14] t (0, 0)) := by
  obtain ⟨l⟩ := cs
  match l, e with
  | [y0, y1, y2, y3, y4, y5, y6, y7, y8, y9, y10, y11, y12, y13, y14], _ => exact (blk_put (cs' := #[x0, x1, x2, x3, x4, x5, x6, x7, x8, x9, x10, x11, x12, x13, x14]) (blk_put (cs' := #[x0, x1, x2, x3, x4, x5, x6, x7, x8, x9, x10, x11, x12, x13, y14]) (blk_put (cs' := #[x0, x1, x2, x3, x4, x5, x6, x7, x8, x9, x10, x11, x12, y13, y14]) (blk_put (cs' := #[x0, x1, x2, x3, x4, x5, x6, x7, x8, x9, x10, x11, y12, y13, y14]) (blk_put (cs' := #[x0, x1, x2, x3, x4, x5, x6, x7, x8, x9, x10, y11, y12, y13, y14]) (blk_put (cs' := #[x0, x1, x2, x3, x4, x5, x6, x7, x8, x9, y10, y11, y12, y13, y14]) (blk_put (cs' := #[x0, x1, x2, x3, x4, x5, x6, x7, x8, y9, y10, y11, y12, y13, y14]) (blk_put (cs' := #[x0, x1, x2, x3, x4, x5, x6, x7, y8, y9, y10, y11, y12, y13, y14]) (blk_put (cs' := #[x0, x1, x2, x3, x4, x5, x6, y7, y8, y9, y10, y11, y12, y13, y14]) (blk_put (cs' := #[x0, x1, x2, x3, x4, x5, y6, y7, y8, y9, y10, y11, y12, y13, y14]) (blk_put (cs' := #[x0, x1, x2, x3, x4, y5, y6, y7, y8, y9, y10, y11, y12, y13, y14]) (blk_put (cs' := #[x0, x1, x2, x3, y4, y5, y6, y7, y8, y9, y10, y11, y12, y13, y14]) (blk_put (cs' := #[x0, x1, x2, y3, y4, y5, y6, y7, y8, y9, y10, y11, y12, y13, y14]) (blk_put (cs' := #[x0, x1, y2, y3, y4, y5, y6, y7, y8, y9, y10, y11, y12, y13, y14]) (blk_put (cs' := #[x0, y1, y2, y3, y4, y5, y6, y7, y8, y9, y10, y11, y12, y13, y14]) h 0 x0 rfl) 1 x1 rfl) 2 x2 rfl) 3 x3 rfl) 4 x4 rfl) 5 x5 rfl) 6 x6 rfl) 7 x7 rfl) 8 x8 rfl) 9 x9 rfl) 10 x10 rfl) 11 x11 rfl) 12 x12 rfl) 13 x13 rfl) 14 x14 rfl)
/-- A scope that nothing jumps in, and behind which no jump can be. -/
theorem scope_plain {P : Program} {Q : Exit → Act → World → Prop} {a : Act} {w : World} {c : Code} (h : c.wp P Q a w) (hg : ∀ l a w, ¬ Q (.goto l) a w) : (Code.scope c).wp P Q a w := by
  intro b k cs
  obtain ⟨e, a₁, w₁, hq, harr⟩ := h b (.inScope c :: k) cs
  cases e with
  | normal => exact ⟨.normal, a₁, w₁, hq, .head step_scope (Steps.trans harr (.one step_inScope))⟩
  | exit id => exact ⟨.exit id, a₁, w₁, hq, fun k' hk => .head step_scope (harr k' (by simp [exitTo, hk]))⟩
  | goto l => exact (hg l _ _ hq).elim
  | ret => exact ⟨_, a₁, w₁, hq, .of_steps (.one step_scope) harr⟩
  | panic ch => exact ⟨_, a₁, w₁, hq, .of_steps (.one step_scope) harr⟩
  | outgrown => exact ⟨_, a₁, w₁, hq, .of_steps (.one step_scope) harr⟩

theorem cells_3 {w : World} {g : Nat} {t : TypeId} {x0 x1 x2 : Value} (h : w.heap[g]? = some (.cells #[x0, x1, x2] t (0, 0))) : w.cell? ⟨g, 0, none⟩ = some x0 ∧ w.cell? ⟨g, 1, none⟩ = some x1 ∧ w.cell? ⟨g, 2, none⟩ = some x2 := ⟨(blk_cell h 0).trans rfl, (blk_cell h 1).trans rfl, (blk_cell h 2).trans rfl⟩
theorem cells_12 {w : World} {g : Nat} {t : TypeId} {x0 x1 x2 x3 x4 x5 x6 x7 x8 x9 x10 x11 : Value} (h : w.heap[g]? = some (.cells #[x0, x1, x2, x3, x4, x5, x6, x7, x8, x9, x10, x11] t (0, 0))) : w.cell? ⟨g, 0, none⟩ = some x0 ∧ w.cell? ⟨g, 1, none⟩ = some x1 ∧ w.cell? ⟨g, 2, none⟩ = some x2 ∧ w.cell? ⟨g, 3, none⟩ = some x3 ∧ w.cell? ⟨g, 4, none⟩ = some x4 ∧ w.cell? ⟨g, 5, none⟩ = some x5 ∧ w.cell? ⟨g, 6, none⟩ = some x6 ∧ w.cell? ⟨g, 7, none⟩ = some x7 ∧ w.cell? ⟨g, 8, none⟩ = some x8 ∧ w.cell? ⟨g, 9, none⟩ = some x9 ∧ w.cell? ⟨g, 10, none⟩ = some x10 ∧ w.cell? ⟨g, 11, none⟩ = some x11 := ⟨(blk_cell h 0).trans rfl, (blk_cell h 1).trans rfl, (blk_cell h 2).trans rfl, (blk_cell h 3).trans rfl, (blk_cell h 4).trans rfl, (blk_cell h 5).trans rfl, (blk_cell h 6).trans rfl, (blk_cell h 7).trans rfl, (blk_cell h 8).trans rfl, (blk_cell h 9).trans rfl, (blk_cell h 10).trans rfl, (blk_cell h 11).trans rfl⟩
theorem cells_15 {w : World} {g : Nat} {t : TypeId} {x0 x1 x2 x3 x4 x5 x6 x7 x8 x9 x10 x11 x12 x13 x14 : Value} (h : w.heap[g]? = some (.cells #[x0, x1, x2, x3, x4, x5, x6, x7, x8, x9, x10, x11, x12, x13, x14] t (0, 0))) : w.cell? ⟨g, 0, none⟩ = some x0 ∧ w.cell? ⟨g, 1, none⟩ = some x1 ∧ w.cell? ⟨g, 2, none⟩ = some x2 ∧ w.cell? ⟨g, 3, none⟩ = some x3 ∧ w.cell? ⟨g, 4, none⟩ = some x4 ∧ w.cell? ⟨g, 5, none⟩ = some x5 ∧ w.cell? ⟨g, 6, none⟩ = some x6 ∧ w.cell? ⟨g, 7, none⟩ = some x7 ∧ w.cell? ⟨g, 8, none⟩ = some x8 ∧ w.cell? ⟨g, 9, none⟩ = some x9 ∧ w.cell? ⟨g, 10, none⟩ = some x10 ∧ w.cell? ⟨g, 11, none⟩ = some x11 ∧ w.cell? ⟨g, 12, none⟩ = some x12 ∧ w.cell? ⟨g, 13, none⟩ = some x13 ∧ w.cell? ⟨g, 14, none⟩ = some x14 := ⟨(blk_cell h 0).trans rfl, (blk_cell h 1).trans rfl, (blk_cell h 2).trans rfl, (blk_cell h 3).trans rfl, (blk_cell h 4).trans rfl, (blk_cell h 5).trans rfl, (blk_cell h 6).trans rfl, (blk_cell h 7).trans rfl, (blk_cell h 8).trans rfl, (blk_cell h 9).trans rfl, (blk_cell h 10).trans rfl, (blk_cell h 11).trans rfl, (blk_cell h 12).trans rfl, (blk_cell h 13).trans rfl, (blk_cell h 14).trans rfl⟩
theorem store_row_12 {P : Program} {o : Oper} {a : Act} {W : World} (g : Nat) (x0 x1 x2 x3 x4 x5 x6 x7 x8 x9 x10 x11 : Value) {t : TypeId} {p : Tmp} {v : Operand} (ho : o.op = .store t (.tmp p) v) (hx : a.eval (.tmp p) = .pointer (some ⟨g, 0, none⟩)) (hy : a.eval v = .agg #[x0, x1, x2, x3, x4, x5, x6, x7, x8, x9, x10, x11]) {t' : TypeId} {cs : Array Value} (hg : W.heap[g]? = some (.cells cs t' (0, 0))) (hs : cs.size = 12) (hi : (P.info? t).map (·.size) = some 12) (h1 : ([x0, x1, x2, x3, x4, x5, x6, x7, x8, x9, x10, x11].all (·.oneCell')) = true) : (execOp a.eval o).run P W = .ok .skip ((((((((((((W.setCell ⟨g, 0, none⟩ x0).setCell ⟨g, 1, none⟩ x1).setCell ⟨g, 2, none⟩ x2).setCell ⟨g, 3, none⟩ x3).setCell ⟨g, 4, none⟩ x4).setCell ⟨g, 5, none⟩ x5).setCell ⟨g, 6, none⟩ x6).setCell ⟨g, 7, none⟩ x7).setCell ⟨g, 8, none⟩ x8).setCell ⟨g, 9, none⟩ x9).setCell ⟨g, 10, none⟩ x10).setCell ⟨g, 11, none⟩ x11) := by
  have ht : W.there g 0 (#[x0, x1, x2, x3, x4, x5, x6, x7, x8, x9, x10, x11] : Array Value).size := fun j hj => by
    have hj : j < 12 := hj
    rw [Nat.zero_add]
    exact ⟨by rw [blk_cell hg j, Array.getElem?_eq_getElem (by omega)]; rfl, blk_frozen hg j⟩
  have h2 : (#[x0, x1, x2, x3, x4, x5, x6, x7, x8, x9, x10, x11] : Array Value).all (·.oneCell') = true := by rw [List.all_toArray]; exact h1
  have h := run_storeAt_mid (P := P) W g 0 t #[x0, x1, x2, x3, x4, x5, x6, x7, x8, x9, x10, x11] ht hi h2
  unfold execOp
  simp only [ho, hx, hy, Sem.run_bind, Sem.run_pure, h, Result.andThen_ok]
  rfl
theorem store_rowev_12 {ops : Array Oper} {rest : List Oper} {Q : Exit → Act → World → Prop} {P : Program} {o : Oper} {a : Act} {W : World} (g : Nat) (x0 x1 x2 x3 x4 x5 x6 x7 x8 x9 x10 x11 : Value) (hgd : o.guard = none) {t : TypeId} {p : Tmp} {v : Operand} (ho : o.op = .store t (.tmp p) v) (hN : o.dst = none) (hx : a.eval (.tmp p) = .pointer (some ⟨g, 0, none⟩)) (hy : a.eval v = .agg #[x0, x1, x2, x3, x4, x5, x6, x7, x8, x9, x10, x11]) {t' : TypeId} {cs : Array Value} (hg : W.heap[g]? = some (.cells cs t' (0, 0))) (hs : cs.size = 12) (hi : (P.info? t).map (·.size) = some 12) (h1 : ([x0, x1, x2, x3, x4, x5, x6, x7, x8, x9, x10, x11].all (·.oneCell')) = true) (h : wpList P ops Q rest a ((((((((((((W.setCell ⟨g, 0, none⟩ x0).setCell ⟨g, 1, none⟩ x1).setCell ⟨g, 2, none⟩ x2).setCell ⟨g, 3, none⟩ x3).setCell ⟨g, 4, none⟩ x4).setCell ⟨g, 5, none⟩ x5).setCell ⟨g, 6, none⟩ x6).setCell ⟨g, 7, none⟩ x7).setCell ⟨g, 8, none⟩ x8).setCell ⟨g, 9, none⟩ x9).setCell ⟨g, 10, none⟩ x10).setCell ⟨g, 11, none⟩ x11)) : wpList P ops Q (o :: rest) a W :=
  store_event hgd ho hN (store_row_12 g x0 x1 x2 x3 x4 x5 x6 x7 x8 x9 x10 x11 ho hx hy hg hs hi h1) (fun _ e => e ▸ h)
theorem store_row_15 {P : Program} {o : Oper} {a : Act} {W : World} (g : Nat) (x0 x1 x2 x3 x4 x5 x6 x7 x8 x9 x10 x11 x12 x13 x14 : Value) {t : TypeId} {p : Tmp} {v : Operand} (ho : o.op = .store t (.tmp p) v) (hx : a.eval (.tmp p) = .pointer (some ⟨g, 0, none⟩)) (hy : a.eval v = .agg #[x0, x1, x2, x3, x4, x5, x6, x7, x8, x9, x10, x11, x12, x13, x14]) {t' : TypeId} {cs : Array Value} (hg : W.heap[g]? = some (.cells cs t' (0, 0))) (hs : cs.size = 15) (hi : (P.info? t).map (·.size) = some 15) (h1 : ([x0, x1, x2, x3, x4, x5, x6, x7, x8, x9, x10, x11, x12, x13, x14].all (·.oneCell')) = true) : (execOp a.eval o).run P W = .ok .skip (((((((((((((((W.setCell ⟨g, 0, none⟩ x0).setCell ⟨g, 1, none⟩ x1).setCell ⟨g, 2, none⟩ x2).setCell ⟨g, 3, none⟩ x3).setCell ⟨g, 4, none⟩ x4).setCell ⟨g, 5, none⟩ x5).setCell ⟨g, 6, none⟩ x6).setCell ⟨g, 7, none⟩ x7).setCell ⟨g, 8, none⟩ x8).setCell ⟨g, 9, none⟩ x9).setCell ⟨g, 10, none⟩ x10).setCell ⟨g, 11, none⟩ x11).setCell ⟨g, 12, none⟩ x12).setCell ⟨g, 13, none⟩ x13).setCell ⟨g, 14, none⟩ x14) := by
  have ht : W.there g 0 (#[x0, x1, x2, x3, x4, x5, x6, x7, x8, x9, x10, x11, x12, x13, x14] : Array Value).size := fun j hj => by
    have hj : j < 15 := hj
    rw [Nat.zero_add]
    exact ⟨by rw [blk_cell hg j, Array.getElem?_eq_getElem (by omega)]; rfl, blk_frozen hg j⟩
  have h2 : (#[x0, x1, x2, x3, x4, x5, x6, x7, x8, x9, x10, x11, x12, x13, x14] : Array Value).all (·.oneCell') = true := by rw [List.all_toArray]; exact h1
  have h := run_storeAt_mid (P := P) W g 0 t #[x0, x1, x2, x3, x4, x5, x6, x7, x8, x9, x10, x11, x12, x13, x14] ht hi h2
  unfold execOp
  simp only [ho, hx, hy, Sem.run_bind, Sem.run_pure, h, Result.andThen_ok]
  rfl
theorem store_rowev_15 {ops : Array Oper} {rest : List Oper} {Q : Exit → Act → World → Prop} {P : Program} {o : Oper} {a : Act} {W : World} (g : Nat) (x0 x1 x2 x3 x4 x5 x6 x7 x8 x9 x10 x11 x12 x13 x14 : Value) (hgd : o.guard = none) {t : TypeId} {p : Tmp} {v : Operand} (ho : o.op = .store t (.tmp p) v) (hN : o.dst = none) (hx : a.eval (.tmp p) = .pointer (some ⟨g, 0, none⟩)) (hy : a.eval v = .agg #[x0, x1, x2, x3, x4, x5, x6, x7, x8, x9, x10, x11, x12, x13, x14]) {t' : TypeId} {cs : Array Value} (hg : W.heap[g]? = some (.cells cs t' (0, 0))) (hs : cs.size = 15) (hi : (P.info? t).map (·.size) = some 15) (h1 : ([x0, x1, x2, x3, x4, x5, x6, x7, x8, x9, x10, x11, x12, x13, x14].all (·.oneCell')) = true) (h : wpList P ops Q rest a (((((((((((((((W.setCell ⟨g, 0, none⟩ x0).setCell ⟨g, 1, none⟩ x1).setCell ⟨g, 2, none⟩ x2).setCell ⟨g, 3, none⟩ x3).setCell ⟨g, 4, none⟩ x4).setCell ⟨g, 5, none⟩ x5).setCell ⟨g, 6, none⟩ x6).setCell ⟨g, 7, none⟩ x7).setCell ⟨g, 8, none⟩ x8).setCell ⟨g, 9, none⟩ x9).setCell ⟨g, 10, none⟩ x10).setCell ⟨g, 11, none⟩ x11).setCell ⟨g, 12, none⟩ x12).setCell ⟨g, 13, none⟩ x13).setCell ⟨g, 14, none⟩ x14)) : wpList P ops Q (o :: rest) a W :=
  store_event hgd ho hN (store_row_15 g x0 x1 x2 x3 x4 x5 x6 x7 x8 x9 x10 x11 x12 x13 x14 ho hx hy hg hs hi h1) (fun _ e => e ▸ h)


theorem cut_max {P : Program} (t e : TypeId) (kl kh km : IntKind) {i : TypeInfo} (ht : P.underlying t = some (.slice e)) (hi : P.info? e = some i) (size : Nat) (hsz : i.size = size) (A : Option Addr) (n c : Nat) (lo hi' : Int) (h0 : 0 ≤ lo) (h1 : lo ≤ hi') (h2 : hi' ≤ n) (hc : n ≤ c) :
    ∀ W : World, (Instr.slice t (.slice A n c) (some (.int kl lo)) (some (.int kh hi')) (some (.int km hi'))).run P W = .ok (.slice (if hi'.toNat = lo.toNat then A else A.map (·.add (lo.toNat * size))) (hi'.toNat - lo.toNat) (hi'.toNat - lo.toNat)) W := by
  intro W
  have hel : P.elem t = e := by simp [Program.elem, ht]
  have hu : P.underlying t = some (.slice (P.elem t)) := by rw [hel]; exact ht
  rw [run_slice_lhm W t A n c hu kl kh km lo hi' hi' h0 h1 (by omega) (by omega), hel]
  simp [sizeOf, typeInfo, hi, hsz, sliced, Result.andThen]
section
variable {P : Program} {ops : Array Oper} {rest : List Oper} {o : Oper} {a : Act} {Q : Exit → Act → World → Prop} {W : World}
/-- '[]byte(s)': a row that is new, and only read. -/
theorem conv_event {e : TypeId} (hgd : o.guard = none) {N : Tmp} (_hd : o.dst = some N) (src dst : TypeId) (x : Operand) (ho : o.op = .convert src dst x)
    (hs : P.underlying src = some .string) (hdd : P.underlying dst = some (.slice e)) (he : P.underlying e = some (.int .u8)) (s : ByteArray) (hx : a.eval x = .string s) (hsz : s.size ≤ 9223372036854775807)
    (h : ∀ v1 w1, Kd.V (Kd.int .u8) e w1 W.heap.size (fun k_ => W.heap.size ≤ k_) v1 (bytesOf s) → Below W.heap.size W w1 → W.grownBy w1 none → (∃ b, v1.ownBlock = some b ∧ W.heap.size ≤ b) → wpList P ops Q rest (a.put o.dst v1) w1) : wpList P ops Q (o :: rest) a W := by
  refine Kd.event_run (w1 := Lib.bytesWorld W e s) (v := .slice (some ⟨W.heap.size, 0, none⟩) s.size (grownCap W s.size 0 e)) hgd ?_ (h _ _ ?_ ?_ ?_ ⟨W.heap.size, by simp [Value.ownBlock], Nat.le_refl _⟩)
  · simp [execOp, ho, hx, Lib.run_convert_string_bytes W src dst e s hs hdd he]
  · have hl : (bytesOf s).length = s.size := bytesOf_length s
    rw [← hl]
    refine Kd.V_mk (by rw [hl]; exact grownCap_ge W s.size 0 e) ?_
    intro W' hW
    have hh := hW W.heap.size (Nat.le_refl _) (by rw [Lib.bytesWorld_size]; omega)
    refine Kd.C_of_reads (d := (0 : Int)) (h1 := fun _ => rfl) ⟨rfl, by rw [hl]; exact hsz, fun _ => ⟨_, rfl, fun j hj => ?_⟩⟩
    have hr := (bytes_reads W e s hsz).2.2 (by omega)
    obtain ⟨ad, had, hc⟩ := hr
    obtain rfl : (⟨W.heap.size, 0, none⟩ : Addr) = ad := Option.some.inj had
    have h2 := hc j (by omega)
    rw [add_plain] at h2 ⊢
    rw [World.cell?_of_block (w := Lib.bytesWorld W e s) hh]
    exact h2
  · exact bytes_below (Below.refl _ _) (Nat.le_refl _) e s
  · exact grown_of_below (bytes_below (Below.refl _ _) (Nat.le_refl _) e s) none
end

theorem cut_whole {P : Program} (t e : TypeId) (ht : P.underlying t = some (.slice e)) (hinfo : (P.info? e).map (fun i => (i.zero, i.size, i.bytes)) = some (some (.int .u8 0), 1, 1)) (g n c : Nat) (m : Int) (hm : m = (n : Int)) (h0 : 0 < n) (hc : n ≤ c) :
    ∀ W : World, (Instr.slice t (.slice (some ⟨g, 0, none⟩) n c) (some (.int .i64 0)) (some (.int .i64 m)) (some (.int .i64 m))).run P W = .ok (.slice (some ⟨g, 0, none⟩) n n) W := by
  intro W
  subst hm
  obtain ⟨i, hi, hz⟩ := Option.map_eq_some_iff.1 hinfo
  simp only [Prod.mk.injEq] at hz
  have hel : P.elem t = e := by simp [Program.elem, ht]
  have hu : P.underlying t = some (.slice (P.elem t)) := by rw [hel]; exact ht
  rw [run_slice_lhm W t _ n c hu .i64 .i64 .i64 0 n n (by omega) (by omega) (by omega) (by omega), hel]
  have hne : ¬ n = 0 := by omega
  simp [sizeOf, typeInfo, hi, hz.2.1, sliced, Result.andThen, hne, Addr.add]
section
variable {P : Program} {ops : Array Oper} {rest : List Oper} {o : Oper} {a : Act} {Q : Exit → Act → World → Prop} {W : World}
/-- '[]byte(s)', its row by its very world. -/
theorem conv_at (e : TypeId) (hgd : o.guard = none) {N : Tmp} (_hd : o.dst = some N) (src dst : TypeId) (x : Operand) (ho : o.op = .convert src dst x)
    (hs : P.underlying src = some .string) (hdd : P.underlying dst = some (.slice e)) (he : P.underlying e = some (.int .u8)) (s : ByteArray) (hx : a.eval x = .string s)
    (h : wpList P ops Q rest (a.put o.dst (.slice (some ⟨W.heap.size, 0, none⟩) s.size (grownCap W s.size 0 e))) (Lib.bytesWorld W e s)) : wpList P ops Q (o :: rest) a W :=
  Kd.event_run hgd (by simp [execOp, ho, hx, Lib.run_convert_string_bytes W src dst e s hs hdd he]) h
/-- 'b[0:n:n]' of a row of n bytes. -/
theorem cut_at (e : TypeId) (hgd : o.guard = none) {N : Tmp} (_hd : o.dst = some N) (t : TypeId) (x l h' m' : Operand) (ho : o.op = .slice t x (some l) (some h') (some m'))
    (ht : P.underlying t = some (.slice e)) (hinfo : (P.info? e).map (fun i => (i.zero, i.size, i.bytes)) = some (some (.int .u8 0), 1, 1)) (g n c : Nat) (m : Int) (hm : m = (n : Int)) (h0 : 0 < n) (hc : n ≤ c)
    (hx : a.eval x = .slice (some ⟨g, 0, none⟩) n c) (hl : a.eval l = .int .i64 0) (hh : a.eval h' = .int .i64 m) (hmm : a.eval m' = .int .i64 m)
    (h : wpList P ops Q rest (a.put o.dst (.slice (some ⟨g, 0, none⟩) n n)) W) : wpList P ops Q (o :: rest) a W :=
  Kd.event_run hgd (by have hel : P.elem t = e := by simp [Program.elem, ht]
                       simp [execOp, ho, hx, hl, hh, hmm, run_sliceAt_slice W t _ _ _ _ (show P.underlying t = some (.slice (P.elem t)) by rw [hel]; exact ht), cut_whole t e ht hinfo g n c m hm h0 hc]) h
end
section
variable {P : Program} {ops : Array Oper} {rest : List Oper} {o : Oper} {a : Act} {Q : Exit → Act → World → Prop} {W : World}
/-- 'make([]byte, 0, m)': an empty row of the call's own. -/
theorem make0_at (e : TypeId) (hgd : o.guard = none) {N : Tmp} (_hd : o.dst = some N) (t : TypeId) (x y : Operand) (ho : o.op = .makeSlice t x y) (m : Int) (hx : a.eval x = .int .i64 0) (hy : a.eval y = .int .i64 m)
    (ht : P.underlying t = some (.slice e)) (hinfo : (P.info? e).map (fun i => (i.zero, i.size, i.bytes)) = some (some (.int .u8 0), 1, 1)) (h0 : 0 ≤ m) (hl : m ≤ 281474976710656)
    (h : ∀ v1 w1, (Kd.int .u8).R e w1 W.heap.size (fun _ => True) v1 [] → Below W.heap.size W w1 → wpList P ops Q rest (a.put o.dst v1) w1) : wpList P ops Q (o :: rest) a W := by
  obtain ⟨i0, hi, hzz⟩ := Option.map_eq_some_iff.1 hinfo
  simp only [Prod.mk.injEq] at hzz
  obtain ⟨hz0, hz1, hz2⟩ := hzz
  have hr := run_make (P := P) W t e i0 (.int .u8 0) ht hi hz0 .i64 .i64 0 m (by omega) h0 (by rw [hz2]; omega) (by omega)
  refine Kd.event_run (v := .slice (some ⟨W.heap.size, 0, none⟩) 0 m.toNat) (w1 := W.alloc (.cells (madeCells (Value.int .u8 0).cells (m.toNat * i0.size)) e)) hgd (by simp [execOp, ho, hx, hy, hr]) (h _ _ ?_ (below_alloc (Below.refl _ _) _))
  refine Kd.R_of_own ⟨rfl, .inr ⟨W.heap.size, m.toNat, madeCells (Value.int .u8 0).cells (m.toNat * i0.size), rfl, Nat.le_refl _, blk_new W _, Nat.zero_le _, by simp [maxLen]; omega, by rw [size_madeCells, hz1], rfl⟩⟩ (fun _ _ => trivial)
end

/-! ### Phrases that recur, told once: the last premise of each is filled where it is used -/
theorem kb {p q : Prop} (h : q) (f : q → p := by
  intro h; (with_reducible repeat (first | refine blk_drewN ?_ _ | refine blk_drew ?_ | refine blk_alloc ?_ _)); exact h) : p := f h
theorem kB {p q : Prop} (h : q) (f : q → p := by
  intro h; repeat (first | (with_reducible first | exact h | apply below_alloc | apply pw_below_drewN | apply below_drew1) | exact h)) : p := f h
theorem kB1 {p q q1 : Prop} (h : q) (h1 : q1) (f : q → q1 → p := by
  intro h h1; repeat (first | (with_reducible first | exact h | apply below_alloc | apply pw_below_drewN | apply below_drew1 | refine below_set ?_ h1) | exact h)) : p := f h h1
theorem kB2 {p q q1 q2 : Prop} (h : q) (h1 : q1) (h2 : q2) (f : q → q1 → q2 → p := by
  intro h h1 h2; repeat (first | (with_reducible first | exact h | apply below_alloc | apply pw_below_drewN | apply below_drew1 | refine below_set ?_ h1 | refine below_set ?_ h2) | exact h)) : p := f h h1 h2
theorem kB3 {p q q1 q2 q3 : Prop} (h : q) (h1 : q1) (h2 : q2) (h3 : q3) (f : q → q1 → q2 → q3 → p := by
  intro h h1 h2 h3; repeat (first | (with_reducible first | exact h | apply below_alloc | apply pw_below_drewN | apply below_drew1 | refine below_set ?_ h1 | refine below_set ?_ h2 | refine below_set ?_ h3) | exact h)) : p := f h h1 h2 h3
theorem kA {p : Prop} (f : p := by
  (try simp only [List.map_toArray, List.map_cons, List.map_nil]); first | done | rfl | (simp only [List.length_drop, List.length_take]; rfl)) : p := f
theorem kS {p : Prop} (f : p := by first | rfl | (simp; done) | (simp [*]; done)) : p := f
theorem kE {p : Prop} (f : p := by first | rfl | (simp [errW_none, errW_some] <;> rfl) | (simp [*, errW_none, errW_some] <;> rfl)) : p := f
theorem kR {p q : Prop} (h : q) (f : q → p := by
  intro h; (with_reducible repeat (first | apply Kd.R_alloc | apply Kd.R_drewN | apply Kd.R_drew)); exact h) : p := f h
theorem kQ {p : Prop} (f : p := by (with_reducible first | assumption) ) : p := f
theorem hcell {w W : World} {a : Go.Addr} {v : Value} (hb : Below w.heap.size w W) (h : w.cell? a = some v) : W.cell? a = some v := (hb.cell (World.block_lt_of_cell? w a h)).trans h
theorem u8w (x : Int) : IntKind.u8.wrap x = x % 256 := (fun (h : ∀ y : Int, y = y) => h _) (fun _ => rfl)
theorem kG {p : Prop} (f : p := by go_simp; first | done | (simp only [u8w]; done) | rfl) : p := f
theorem As {p : Prop} (h : p) : Aside0 p := ⟨h⟩
theorem sA {α : Type _} (l : List α) (i : Nat) (a : α) : l.toArray.setIfInBounds i a = (l.set i a).toArray := List.setIfInBounds_toArray l i a
theorem sZ {α : Type _} (x : α) (l : List α) (a : α) : (x :: l).set 0 a = a :: l := rfl
theorem sS {α : Type _} (x : α) (l : List α) (n : Nat) (a : α) : (x :: l).set (n + 1) a = x :: l.set n a := rfl
abbrev I : Bool := true
abbrev O : Bool := false
theorem kC {w : World} {g : Nat} {t : TypeId} {cs : Array Value} (h : w.heap[g]? = some (.cells cs t (0, 0))) (i : Nat) {v : Value} (e : cs[i]? = some v := by rfl) : w.cell? ⟨g, i, none⟩ = some v := (blk_cell h i).trans e
theorem kF {W : World} {p a : Go.Addr} {u v : Value} (h : a.block ≠ p.block) (e : W.cell? a = some v) : (W.setCell p u).cell? a = some v := (cell_far h u).trans e
section
variable {P : Program} {md : Region.Mode} {ops : Array Oper} {Q : Exit → Act → World → Prop} {S : World → Prop} {ds : List Nat}
theorem kP (i : Nat) (N : Tmp) {oi : Oper} {v : Value} {fuel : Nat} {l : Array Bool} {a : Act} {w : World} (l' : Array Bool) {a' : Act} (h : wpAnyLast P md ops Q S ds fuel l' a' w) (hc : anyB md ops l l' i = true)
    (hi : ops[i]? = some oi := by rfl) (hN : oi.dst = some N := by rfl) (hQ : ∀ c a w, Q (.panic c) (a.put oi.dst v) w → Q (.panic c) a w := by exact fun _ _ _ h => h)
    (hy : Yields P ops oi v a := by (refine Or.inl ⟨by rfl, ?_⟩; intro w'; go_simp; first | with_reducible rfl | rfl)) (ha : a.put (some N) v = a' := by (simp only [Act.put, sA, sZ, sS, i64_w, i32_w]; rfl)) :
    wpAnyLast P md ops Q S ds (fuel + 1) l a w := pure_ l' hi hN hc hQ hy ha h
end
theorem bS {α β : Type} {x : Option α} {f : α → Option β} {r : β} (h : x.bind f = some r) : ∃ a, Aside0 (x = some a) ∧ f a = some r := by
  cases x with
  | none => cases h
  | some a => exact ⟨a, ⟨rfl⟩, h⟩
theorem yS {α β : Type} {x : α} {f : α → Option β} {r : β} (h : (some x).bind f = some r) : ∃ a, Aside0 (a = x) ∧ f a = some r := ⟨x, ⟨rfl⟩, h⟩
theorem iS {β : Type} {p : Prop} [i : Decidable p] {x : Option β} {r : β} (h : (if p then x else none) = some r) : p ∧ x = some r := by
  by_cases c : p
  · rw [if_pos c] at h; exact ⟨c, h⟩
  · rw [if_neg c] at h; cases h
theorem gS {n m g : Nat} (hg : g = m) (h : n ≤ m) : n ≤ g := hg ▸ h
theorem gN {n m g : Nat} (hg : g = m) (h : n < m) : n ≠ g := hg ▸ Nat.ne_of_lt h
theorem gM {n m g : Nat} (hg : g = m) (h : n < m) : g ≠ n := hg ▸ Nat.ne_of_gt h
theorem zl_ (l : List UInt8) : (ByteArray.mk (List.toArray l)).size = l.length := by show (List.toArray l).size = _; rw [List.size_toArray]
theorem sz_ {a b m : Nat} (h : b ≤ m) (e : b = a := by (try simp only [ByteArray.size_append, ByteArray.size_extract, zl_, List.length_cons, List.length_nil]); first | done | rfl | omega) : (m < a) = False ∧ (a ≤ m) = True ∧ decide (a ≤ m) = true := by
  rw [e] at h; exact ⟨eq_false (Nat.not_lt.2 h), eq_true h, decide_eq_true h⟩
theorem nP {P : Program} {md : Region.Mode} {ops : Array Oper} {Q : Exit → Act → World → Prop} {S : World → Prop} {ds : List Nat} {fuel : Nat} {l : Array Bool} {a a' : Act} {w : World} (h : wpAnyLast P md ops Q S ds fuel l a' w) (ha : a = a' := by (show Act.put _ (some _) _ = _; simp only [Act.put, sA, sZ, sS, i64_w, i32_w]; rfl)) : wpAnyLast P md ops Q S ds fuel l a w := norm_ ha h
end Go.Proofs.Ytobioaommmgehaa.Z
-- short
-- short2
