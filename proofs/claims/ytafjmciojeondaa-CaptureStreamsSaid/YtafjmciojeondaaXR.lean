/- Words that carry a law's plain form to its row and its card. Written by rows.py, a program of this claim's author. -/
import Derived.Test.YtafjmciojeondaaX0
import Derived.WalkKit
import Derived.ProofKit
import Derived.OpenShut
import Derived.SizedLaws
import Derived.ChangeOld
namespace Go.Proofs.Ytafjmciojeondaa.X
open Go.RowKit Go.Proofs.YtafjmciojeondaaW.PrintWords Go.Proofs.YtafjmciojeondaaW.PrintLast Go.Proofs.YtafjmciojeondaaW.PrintMore
/-! ### What a row opens -/
section
variable {H : Type} {enc : TypeId × Value → H} {P : Program} {w : World} {base : Nat} {spare : Nat → Bool} {held : Bool} {fuel : Nat} {t : TypeId} {cs : List Value} {x : DataW H × List MemPlace}
/-- No string and no slice within is larger than a machine's memory. -/
def Fits (P : Program) (t : TypeId) (x : DataW H × List MemPlace) : Prop := ∀ m ∈ x.1.weights P t, m ≤ 140737488351232
theorem fits_at {ts : List TypeId} {ds : List (DataW H)} (h : (DataW.weightsEach P ts ds).all (· ≤ reachBytes) = true) {j : Nat} {d : DataW H} {q : List MemPlace} (ht : ts[j]? = some t) (hd : ds[j]? = some d) : Fits P t (d, q) := fun m hm => by
  have h2 : m ≤ reachBytes := of_decide_eq_true (List.all_eq_true.1 h m (DataW.weights_mem_each ht hd m hm))
  exact h2
theorem all_mem {e : TypeId} : ∀ (l : List (DataW H)) (i : Nat) (d : DataW H), l[i]? = some d → ∀ m ∈ d.weights P e, m ∈ DataW.weightsAll P e l
  | a :: l, 0, d, hd, m, hm => by
    simp only [List.getElem?_cons_zero, Option.some.injEq] at hd
    subst hd
    simp only [DataW.weightsAll, List.mem_append]
    exact .inl hm
  | a :: l, i + 1, d, hd, m, hm => by
    simp only [List.getElem?_cons_succ] at hd
    simp only [DataW.weightsAll, List.mem_append]
    exact .inr (all_mem l i d hd m hm)
  | [], _, _, hd, _, _ => by simp at hd
theorem fields_of {fs : Array Field} (ht : P.underlying t = some (.struct fs)) (h : DataW.trod enc P w base spare held fuel t cs = some x) (hw : Fits P t x) :
    ∃ n, ∀ (i : Nat) (f : Field), fs[i]? = some f → ∃ y, DataW.trod enc P w base spare held n f.type ((cs.drop f.offset).take (P.cellsOf f.type)) = some y ∧ Fits P f.type y := by
  obtain ⟨xs, n, _, hx, _, hl, hg⟩ := DataW.trod_struct ht h
  refine ⟨n, fun i f hf => ?_⟩
  have hi : i < xs.length := by rw [hl]; exact (Array.getElem?_eq_some_iff.1 hf).1
  refine ⟨xs[i], by rw [hg i f hf, List.getElem?_eq_getElem hi], fun m hm => hw m ?_⟩
  rw [hx]
  simp only [DataW.weights, ht]
  exact DataW.weights_mem_each (ts := fs.toList.map (·.type)) (j := i) (t := f.type) (d := xs[i].1) (by rw [List.getElem?_map, Array.getElem?_toList, hf]; rfl) (by rw [List.getElem?_map, List.getElem?_eq_getElem hi]; rfl) m hm
theorem field_at {fs : Array Field} {n : Nat} (F : ∀ (i : Nat) (f : Field), fs[i]? = some f → ∃ y, DataW.trod enc P w base spare held n f.type ((cs.drop f.offset).take (P.cellsOf f.type)) = some y ∧ Fits P f.type y)
    (i : Nat) (u : TypeId) (o z : Nat) (h : (fs[i]?).map (fun f => (f.type, f.offset)) = some (u, o)) (hz : P.cellsOf u = z) : ∃ y, DataW.trod enc P w base spare held n u ((cs.drop o).take z) = some y ∧ Fits P u y := by
  obtain ⟨f, hf, h2⟩ := Option.map_eq_some_iff.1 h
  injection h2 with h3 h4
  subst h3 h4 hz
  exact F i f hf
theorem list_of {α : Type} {n : Nat} {R : Nat → α → Prop} (h : ∀ i, i < n → ∃ p, R i p) : ∃ l : List α, l.length = n ∧ ∀ i p, l[i]? = some p → R i p := by
  refine ⟨(List.range n).attach.map fun i => Classical.choose (h i.1 (List.mem_range.1 i.2)), by simp, fun i p hp => ?_⟩
  rw [List.getElem?_map, Option.map_eq_some_iff] at hp
  obtain ⟨⟨j, hj⟩, hj2, rfl⟩ := hp
  have e : j = i := by
    have h2 := (List.getElem?_eq_some_iff.1 hj2)
    obtain ⟨h3, h4⟩ := h2
    simp at h4
    omega
  subst e
  exact Classical.choose_spec (h j (List.mem_range.1 hj))
theorem read_slice {α : Type} (d : Kd α) (Q : α → Prop) {e : TypeId} (ht : P.underlying t = some (.slice e)) (hsz : P.cellsOf e = d.sz)
    (hel : ∀ n cs x, DataW.trod enc P w base spare held n e cs = some x → Fits P e x → ∃ p, Q p ∧ d.K w p cs) {c : Value} (h : DataW.trod enc P w base spare held fuel t [c] = some x) (hw : Fits P t x) :
    ∃ A l cap, c = .slice A l.length cap ∧ l.length ≤ cap ∧ d.C w A l.length l ∧ ∀ p, p ∈ l → Q p := by
  rcases DataW.trod_slice ht h with ⟨hc, _⟩ | ⟨a, len, cap, elems, rest, n, _, hc, hxe, _, hl, hm, he, hr, _⟩
  · simp only [List.cons.injEq, and_true] at hc
    subst hc
    exact ⟨none, [], 0, rfl, Nat.le_refl _, Kd.C_nil _ _, fun p hp => by cases hp⟩
  · simp only [List.cons.injEq, and_true] at hc
    subst hc
    have hget : ∀ i, i < len → ∃ p, Q p ∧ ∃ cs, cs.length = d.sz ∧ d.K w p cs ∧ ∀ j u, cs[j]? = some u → w.cell? (a.add (i * d.sz + j)) = some u := by
      intro i hi
      have h1 := hr i hi
      rw [List.getElem?_eq_getElem (by omega)] at h1
      obtain ⟨cs, h2, h3⟩ := Option.bind_eq_some_iff.1 h1
      obtain ⟨_, h4, h5⟩ := World.cells?_some h2
      obtain ⟨p, hq, hp⟩ := hel _ _ _ h3 (fun m hm_ => hw m (by
        rw [hxe]
        simp only [DataW.weights, ht, List.mem_cons, List.mem_append]
        exact .inr (.inl (all_mem _ i _ (by rw [List.getElem?_map, List.getElem?_eq_getElem (by omega)]; rfl) m hm_))))
      refine ⟨p, hq, cs, by rw [h4, hsz], hp, fun j u hu => ?_⟩
      have hj : j < cs.length := (List.getElem?_eq_some_iff.1 hu).1
      have h6 := h5 j (by omega)
      rw [hsz, add_add] at h6
      rw [h6, hu]
    obtain ⟨l, hll, hlp⟩ := list_of hget
    refine ⟨some a, l, cap, by rw [hll], by omega, ⟨rfl, by rw [hll]; unfold maxLen at hm; omega, fun _ => ⟨a, rfl, fun j p hj => ?_⟩⟩, fun p hp => ?_⟩
    · obtain ⟨_, cs, h1, h2, h3⟩ := hlp j p hj
      exact ⟨cs, h1, h2, h3⟩
    · obtain ⟨i, hi⟩ := List.getElem?_of_mem hp
      exact (hlp i p hi).1
theorem read_int {k : IntKind} (ht : P.underlying t = some (.int k)) {c : Value} (h : DataW.trod enc P w base spare held fuel t [c] = some x) : ∃ a, c = .int k a ∧ (Lit.int k a).wf = true := by
  obtain ⟨a, h1, _, h2⟩ := DataW.trod_int ht h
  simp only [List.cons.injEq, and_true] at h1
  exact ⟨a, h1, h2⟩
theorem read_bool (ht : P.underlying t = some .bool) {c : Value} (h : DataW.trod enc P w base spare held fuel t [c] = some x) : ∃ a, c = .bool a := by
  obtain ⟨a, h1, _⟩ := DataW.trod_bool ht h
  simp only [List.cons.injEq, and_true] at h1
  exact ⟨a, h1⟩
theorem read_string (ht : P.underlying t = some .string) {c : Value} (h : DataW.trod enc P w base spare held fuel t [c] = some x) (hw : Fits P t x) : ∃ a : ByteArray, c = .string a ∧ a.size ≤ 140737488351232 := by
  obtain ⟨a, h1, h3, h2⟩ := DataW.trod_string ht h
  simp only [List.cons.injEq, and_true] at h1
  refine ⟨a, h1, ?_⟩
  have := hw a.data.toList.length (by rw [h3]; simp [DataW.weights])
  rw [Array.length_toList] at this
  exact this
theorem read_str_el (ht : P.underlying t = some .string) (h : DataW.trod enc P w base spare held fuel t cs = some x) (hw : Fits P t x) : ∃ a : ByteArray, cs = [.string a] ∧ a.size ≤ 140737488351232 := by
  obtain ⟨a, h1, h3, h2⟩ := DataW.trod_string ht h
  refine ⟨a, h1, ?_⟩
  have := hw a.data.toList.length (by rw [h3]; simp [DataW.weights])
  rw [Array.length_toList] at this
  exact this
end
end Go.Proofs.Ytafjmciojeondaa.X
