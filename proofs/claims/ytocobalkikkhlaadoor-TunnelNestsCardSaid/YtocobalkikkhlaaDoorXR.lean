/- Words that carry a law's plain form to its row and its card. Written by rows.py, a program of this claim's author. -/
import Derived.Test.YtocobalkikkhlaaDoorX0
import Derived.WalkKit
import Derived.ProofKit
import Derived.OpenShut
import Derived.SizedLaws
import Derived.ChangeOld
namespace Go.Proofs.YtocobalkikkhlaaDoor.X
open Go.RowKit Go.Proofs.YtocobalkikkhlaaDoorW.PrintWords Go.Proofs.YtocobalkikkhlaaDoorW.PrintLast Go.Proofs.YtocobalkikkhlaaDoorW.PrintMore
/-! ### What a row opens -/
section
variable {H : Type} {enc : TypeId × Value → H} {P : Program} {w : World} {base : Nat} {spare : Nat → Bool} {held : Bool} {fuel : Nat} {t : TypeId} {cs : List Value} {x : DataW H × List MemPlace}
theorem fields_of {fs : Array Field} (ht : P.underlying t = some (.struct fs)) (h : DataW.trod enc P w base spare held fuel t cs = some x) :
    ∃ n, ∀ (i : Nat) (f : Field), fs[i]? = some f → ∃ y, DataW.trod enc P w base spare held n f.type ((cs.drop f.offset).take (P.cellsOf f.type)) = some y := by
  obtain ⟨xs, n, _, _, _, hl, hg⟩ := DataW.trod_struct ht h
  refine ⟨n, fun i f hf => ?_⟩
  have hi : i < xs.length := by rw [hl]; exact (Array.getElem?_eq_some_iff.1 hf).1
  exact ⟨xs[i], by rw [hg i f hf, List.getElem?_eq_getElem hi]⟩
theorem field_at {fs : Array Field} {n : Nat} (F : ∀ (i : Nat) (f : Field), fs[i]? = some f → ∃ y, DataW.trod enc P w base spare held n f.type ((cs.drop f.offset).take (P.cellsOf f.type)) = some y)
    (i : Nat) (u : TypeId) (o z : Nat) (h : (fs[i]?).map (fun f => (f.type, f.offset)) = some (u, o)) (hz : P.cellsOf u = z) : ∃ y, DataW.trod enc P w base spare held n u ((cs.drop o).take z) = some y := by
  obtain ⟨f, hf, h2⟩ := Option.map_eq_some_iff.1 h
  injection h2 with h3 h4
  subst h3 h4 hz
  exact F i f hf
theorem list_of {α : Type} {n : Nat} {R : Nat → α → Prop} (h : ∀ i, i < n → ∃ p, R i p) : ∃ l : List α, l.length = n ∧ ∀ i p, l[i]? = some p → R i p := by
  refine ⟨(List.range n).attach.map fun i => Classical.choose (h i.1 (List.mem_range.1 i.2)), by simp, fun i p hp => ?_⟩
  rw [List.getElem?_map, Option.map_eq_some_iff] at hp
  obtain ⟨⟨j, hj⟩, hj2, rfl⟩ := hp
  have e : j = i := by
    have h2 := (List.getElem?_eq_some_iff.1 hj2)
    obtain ⟨h3, h4⟩ := h2
    simp at h4
    omega
  subst e
  exact Classical.choose_spec (h j (List.mem_range.1 hj))
theorem read_slice {α : Type} (d : Kd α) (Q : α → Prop) {e : TypeId} (ht : P.underlying t = some (.slice e)) (hsz : P.cellsOf e = d.sz)
    (hel : ∀ n cs x, DataW.trod enc P w base spare held n e cs = some x → ∃ p, Q p ∧ d.K w p cs) {c : Value} (h : DataW.trod enc P w base spare held fuel t [c] = some x) :
    ∃ A l cap, c = .slice A l.length cap ∧ l.length ≤ cap ∧ d.C w A l.length l ∧ ∀ p, p ∈ l → Q p := by
  rcases DataW.trod_slice ht h with ⟨hc, _⟩ | ⟨a, len, cap, elems, rest, n, _, hc, _, _, hl, hm, he, hr, _⟩
  · simp only [List.cons.injEq, and_true] at hc
    subst hc
    exact ⟨none, [], 0, rfl, Nat.le_refl _, Kd.C_nil _ _, fun p hp => by cases hp⟩
  · simp only [List.cons.injEq, and_true] at hc
    subst hc
    have hget : ∀ i, i < len → ∃ p, Q p ∧ ∃ cs, cs.length = d.sz ∧ d.K w p cs ∧ ∀ j u, cs[j]? = some u → w.cell? (a.add (i * d.sz + j)) = some u := by
      intro i hi
      have h1 := hr i hi
      rw [List.getElem?_eq_getElem (by omega)] at h1
      obtain ⟨cs, h2, h3⟩ := Option.bind_eq_some_iff.1 h1
      obtain ⟨_, h4, h5⟩ := World.cells?_some h2
      obtain ⟨p, hq, hp⟩ := hel _ _ _ h3
      refine ⟨p, hq, cs, by rw [h4, hsz], hp, fun j u hu => ?_⟩
      have hj : j < cs.length := (List.getElem?_eq_some_iff.1 hu).1
      have h6 := h5 j (by omega)
      rw [hsz, add_add] at h6
      rw [h6, hu]
    obtain ⟨l, hll, hlp⟩ := list_of hget
    refine ⟨some a, l, cap, by rw [hll], by omega, ⟨rfl, by rw [hll]; unfold maxLen at hm; omega, fun _ => ⟨a, rfl, fun j p hj => ?_⟩⟩, fun p hp => ?_⟩
    · obtain ⟨_, cs, h1, h2, h3⟩ := hlp j p hj
      exact ⟨cs, h1, h2, h3⟩
    · obtain ⟨i, hi⟩ := List.getElem?_of_mem hp
      exact (hlp i p hi).1
theorem read_int {k : IntKind} (ht : P.underlying t = some (.int k)) {c : Value} (h : DataW.trod enc P w base spare held fuel t [c] = some x) : ∃ a, c = .int k a ∧ (Lit.int k a).wf = true := by
  obtain ⟨a, h1, _, h2⟩ := DataW.trod_int ht h
  simp only [List.cons.injEq, and_true] at h1
  exact ⟨a, h1, h2⟩
theorem read_bool (ht : P.underlying t = some .bool) {c : Value} (h : DataW.trod enc P w base spare held fuel t [c] = some x) : ∃ a, c = .bool a := by
  obtain ⟨a, h1, _⟩ := DataW.trod_bool ht h
  simp only [List.cons.injEq, and_true] at h1
  exact ⟨a, h1⟩
theorem read_string (ht : P.underlying t = some .string) {c : Value} (h : DataW.trod enc P w base spare held fuel t [c] = some x) : ∃ a : ByteArray, c = .string a ∧ a.size ≤ 9223372036854775807 := by
  obtain ⟨a, h1, _, h2⟩ := DataW.trod_string ht h
  simp only [List.cons.injEq, and_true] at h1
  exact ⟨a, h1, h2⟩
end
end Go.Proofs.YtocobalkikkhlaaDoor.X
