/- CaptureOrdered as a plain law: two lists that ascend in time are merged to one that ascends, and a list merged with none is itself, under the law's own bounds; the records are as large as a machine's memory lets them be. -/
import Derived.Test.YtafjmciojeondaaXDCaptureOrdered
import Derived.Test.YtafjmciojeondaaX0
import Derived.Laws.Bits128
import Derived.Laws.BitsAllLaws
import Derived.Lib.EndianBits
import Derived.Test.YtafjmciojeondaaX7
import Derived.Test.YtafjmciojeondaaX8
import Derived.Test.YtafjmciojeondaaX9
import Derived.Test.YtafjmciojeondaaX21
/-! ### Base -/
set_option linter.unusedVariables false
set_option linter.unusedSimpArgs false
namespace Go.Proofs.Ytafjmciojeondaa.Pure
open Go.RowKit Go.Proofs.Ytafjmciojeondaa.X Go.Proofs.YtafjmciojeondaaW.PrintWords Go.Proofs.YtafjmciojeondaaW.PrintLast Go.Proofs.YtafjmciojeondaaW.PrintMore

/-- Told without 'rfl': a simp by it leaves the kernel little to compare. -/
theorem bs {α β : Type} (a : α) (f : α → Option β) : (some a).bind f = f a := by
  cases h : (some a) with
  | none => cases h
  | some b => injection h with h; subst h; rfl
theorem w64 {n : Int} (h : -9223372036854775808 ≤ n) (h' : n < 9223372036854775808) : wrap64 n = n := by unfold wrap64; omega
/-! ### Cap -/

theorem lives100 : intrusionlaw09_lives.f 100 = some true := by decide +kernel
theorem lives_is (k : Nat) (hk : 100 ≤ k) : intrusionlaw09_lives.f k = some true := at_rounds intrusionlaw09_lives.mono hk lives100
theorem rd33 (l : List S33) (i : Nat) (h : i < l.length) : rd_T33 l (i : Int) = l[i] := by
  unfold rd_T33
  rw [Int.toNat_natCast, List.getD_eq_getElem?_getD, List.getElem?_eq_getElem h]
  rfl
theorem same_loop (l : List S33) (hl : l.length ≤ 4611686018427387904) : ∀ (m i k : Nat), i + m = l.length → intrusionref09_Same.l0 (k + m + 1) l l (i : Int) = some true
  | 0, i, k, h => by rw [intrusionref09_Same.l0, if_neg (by omega)]
  | m + 1, i, k, h => by
    rw [show k + (m + 1) + 1 = (k + m + 1) + 1 by omega, intrusionref09_Same.l0, if_pos (by omega), if_pos (by omega), if_pos (by omega), if_neg (by simp), w64 (n := (i : Int) + 1) (by omega) (by omega), show (i : Int) + 1 = ((i + 1 : Nat) : Int) by omega, same_loop l hl m (i + 1) k (by omega)]
theorem same_is (l : List S33) (hl : l.length ≤ 4611686018427387904) (k : Nat) (hk : l.length + 1 ≤ k) : intrusionref09_Same.f k l l = some true := by
  have := same_loop l hl l.length 0 (k - l.length - 1) (by omega)
  rw [show k - l.length - 1 + l.length + 1 = k by omega] at this
  unfold intrusionref09_Same.f
  rw [if_pos rfl]
  exact this
theorem long_loop (l : List S33) : ∀ (m i k : Nat), i + m = 41 → (∀ j, j < i → (h : j < l.length) → l[j].f2.size ≤ 5000) → i ≤ l.length →
    ∃ b, intrusionref09_Long.l0 (k + 2 * m + 2) l (i : Int) = some b ∧ (b = false → l.length ≤ 40 ∧ ∀ x ∈ l, x.f2.size ≤ 5000)
  | 0, i, k, h, hi, hil => by
    refine ⟨decide ((l.length : Int) > 40), ?_, fun hb => ?_⟩
    · rw [show k + 2 * 0 + 2 = (k + 1) + 1 by omega, intrusionref09_Long.l0]
      by_cases c : (i : Int) < (l.length : Int)
      · rw [if_pos c, decide_eq_false (by omega), intrusionref09_Long.j1, if_neg (by decide)]
      · rw [if_neg c, intrusionref09_Long.j1, if_neg (by decide)]
    · have := of_decide_eq_false hb
      omega
  | m + 1, i, k, h, hi, hil => by
    rw [show k + 2 * (m + 1) + 2 = (k + 2 * m + 2 + 1) + 1 by omega, intrusionref09_Long.l0]
    by_cases c : (i : Int) < (l.length : Int)
    · rw [if_pos c, decide_eq_true (by omega), intrusionref09_Long.j1, if_pos rfl, if_pos (by omega), if_pos c, rd33 l i (by omega)]
      by_cases d : (l[i].f2.size : Int) > 5000
      · rw [if_pos d]
        exact ⟨true, rfl, fun hb => by cases hb⟩
      · rw [if_neg d, w64 (n := (i : Int) + 1) (by omega) (by omega), show (i : Int) + 1 = ((i + 1 : Nat) : Int) by omega]
        refine long_loop l m (i + 1) k (by omega) (fun j hj hjl => ?_) (by omega)
        by_cases e : j = i
        · subst e; omega
        · exact hi j (by omega) hjl
    · rw [if_neg c, intrusionref09_Long.j1, if_neg (by decide)]
      refine ⟨_, rfl, fun hb => ⟨by have := of_decide_eq_false hb; omega, fun x hx => ?_⟩⟩
      obtain ⟨j, hj, rfl⟩ := List.getElem_of_mem hx
      exact hi j (by omega) hj
theorem long_is (l : List S33) (k : Nat) (hk : 90 ≤ k) : ∃ b, intrusionref09_Long.f k l = some b ∧ (b = false → l.length ≤ 40 ∧ ∀ x ∈ l, x.f2.size ≤ 5000) := by
  have := long_loop l 41 0 (k - 84) (by omega) (fun j hj => by omega) (by omega)
  rw [show k - 84 + 2 * 41 + 2 = k by omega] at this
  exact this
theorem merge_loop (a b : List S33) (ha : a.length ≤ 1000) (hb : b.length ≤ 1000) : ∀ (n i j k q : Nat) (out : List S33), (a.length - i) + (b.length - j) = n → i ≤ a.length → j ≤ b.length → out.length + n ≤ 2000 →
    ∃ r, capture_Merge.l0 (k + n + 1) (a.drop i) (b.drop j) out = some r ∧ intrusionref09_Merge.l0 (q + 2 * n + 2) a b out (i : Int) (j : Int) = some r
  | 0, i, j, k, q, out, hn, hi, hj, ho => by
    refine ⟨out, ?_, ?_⟩
    · rw [List.drop_eq_nil_of_le (by omega), List.drop_eq_nil_of_le (by omega)]; rfl
    · rw [show q + 2 * 0 + 2 = (q + 1) + 1 by omega, intrusionref09_Merge.l0, if_neg (by omega), intrusionref09_Merge.j1, if_neg (by rw [decide_eq_true_iff]; omega)]
  | n + 1, i, j, k, q, out, hn, hi, hj, ho => by
    have hA : ∀ (h : i < a.length), ∃ r, capture_Merge.l0 (k + n + 1) (a.drop (i + 1)) (b.drop j) (out ++ [a[i]]) = some r ∧ intrusionref09_Merge.l0 (q + 2 * n + 2) a b (out ++ [(⟨(rd_T33 a (i : Int)).f0, (rd_T33 a (i : Int)).f1, (rd_T33 a (i : Int)).f2⟩ : S33)]) (wrap64 ((i : Int) + 1)) (j : Int) = some r := by
      intro h
      rw [rd33 a i h, w64 (n := (i : Int) + 1) (by omega) (by omega), show (i : Int) + 1 = ((i + 1 : Nat) : Int) by omega]
      exact merge_loop a b ha hb n (i + 1) j k q _ (by omega) (by omega) hj (by rw [List.length_append, List.length_singleton]; omega)
    have hB : ∀ (h : j < b.length), ∃ r, capture_Merge.l0 (k + n + 1) (a.drop i) (b.drop (j + 1)) (out ++ [b[j]]) = some r ∧ intrusionref09_Merge.l0 (q + 2 * n + 2) a b (out ++ [(⟨(rd_T33 b (j : Int)).f0, (rd_T33 b (j : Int)).f1, (rd_T33 b (j : Int)).f2⟩ : S33)]) (i : Int) (wrap64 ((j : Int) + 1)) = some r := by
      intro h
      rw [rd33 b j h, w64 (n := (j : Int) + 1) (by omega) (by omega), show (j : Int) + 1 = ((j + 1 : Nat) : Int) by omega]
      exact merge_loop a b ha hb n i (j + 1) k q _ (by omega) hi (by omega) (by rw [List.length_append, List.length_singleton]; omega)
    have hL : out.length < 4398046511104 := by omega
    have hj1 : intrusionref09_Merge.l0 (q + 2 * (n + 1) + 2) a b out (i : Int) (j : Int) = intrusionref09_Merge.j1 (q + 2 * n + 2 + 1) a b out (i : Int) (j : Int) true := by
      rw [show q + 2 * (n + 1) + 2 = (q + 2 * n + 2 + 1) + 1 by omega, intrusionref09_Merge.l0]
      by_cases c : (i : Int) < (a.length : Int)
      · rw [if_pos c]
      · rw [if_neg c, decide_eq_true (by omega)]
    rw [hj1, intrusionref09_Merge.j1, if_pos rfl, show k + (n + 1) + 1 = (k + n + 1) + 1 by omega]
    by_cases cb : (j : Int) = (b.length : Int)
    · obtain ⟨r, h1, h2⟩ := hA (by omega)
      refine ⟨r, ?_, ?_⟩
      · rw [List.drop_eq_getElem_cons (show i < a.length by omega), show b.drop j = [] from List.drop_eq_nil_of_le (by omega)]
        rw [show b.drop j = [] from List.drop_eq_nil_of_le (by omega)] at h1
        rw [capture_Merge.l0, if_pos hL]
        exact h1
      · rw [if_pos cb, if_pos (by omega), if_pos (by omega), if_pos hL]
        exact h2
    rw [if_neg cb]
    by_cases ca : (i : Int) < (a.length : Int)
    case neg =>
      obtain ⟨r, h1, h2⟩ := hB (by omega)
      refine ⟨r, ?_, ?_⟩
      · rw [List.drop_eq_getElem_cons (show j < b.length by omega), show a.drop i = [] from List.drop_eq_nil_of_le (by omega)]
        rw [show a.drop i = [] from List.drop_eq_nil_of_le (by omega)] at h1
        rw [capture_Merge.l0, if_pos hL]
        exact h1
      · rw [if_neg ca, if_pos (by omega), if_pos (by omega), if_pos hL]
        exact h2
    have hia : i < a.length := by omega
    have hjb : j < b.length := by omega
    rw [if_pos ca, if_pos (by omega), if_pos (by omega), if_pos (by omega), rd33 a i hia, rd33 b j hjb]
    have e2 : capture_Merge.l0 (k + n + 1 + 1) (a.drop i) (b.drop j) out = if b[j].f0 < a[i].f0 then capture_Merge.l0 (k + n + 1) (a.drop i) (b.drop (j + 1)) (out ++ [b[j]]) else capture_Merge.l0 (k + n + 1) (a.drop (i + 1)) (b.drop j) (out ++ [a[i]]) := by
      rw [List.drop_eq_getElem_cons hia, List.drop_eq_getElem_cons hjb, capture_Merge.l0, if_pos hL]
    by_cases cc : a[i].f0 ≤ b[j].f0
    · obtain ⟨r, h1, h2⟩ := hA hia
      rw [rd33 a i hia] at h2
      refine ⟨r, ?_, ?_⟩
      · rw [e2, if_neg (by omega)]; exact h1
      · rw [if_pos cc, if_pos hL]; exact h2
    · obtain ⟨r, h1, h2⟩ := hB hjb
      rw [rd33 b j hjb] at h2
      refine ⟨r, ?_, ?_⟩
      · rw [e2, if_pos (by omega)]; exact h1
      · rw [if_neg cc, if_pos hL]; exact h2
theorem merge_len : ∀ (k : Nat) (a b out r : List S33), capture_Merge.l0 k a b out = some r → r.length = a.length + b.length + out.length
  | 0, a, b, out, r, h => by cases h
  | k + 1, [], [], out, r, h => by
    obtain rfl := Option.some.inj h
    simp
  | k + 1, x :: a, [], out, r, h => by
    rw [capture_Merge.l0] at h
    by_cases c : out.length < 4398046511104
    · rw [if_pos c] at h
      have := merge_len k _ _ _ _ h
      simp at this ⊢
      omega
    · rw [if_neg c] at h; cases h
  | k + 1, [], y :: b, out, r, h => by
    rw [capture_Merge.l0] at h
    by_cases c : out.length < 4398046511104
    · rw [if_pos c] at h
      have := merge_len k _ _ _ _ h
      simp at this ⊢
      omega
    · rw [if_neg c] at h; cases h
  | k + 1, x :: a, y :: b, out, r, h => by
    rw [capture_Merge.l0] at h
    by_cases c : out.length < 4398046511104
    · rw [if_pos c] at h
      by_cases d : y.f0 < x.f0
      · rw [if_pos d] at h
        have := merge_len k _ _ _ _ h
        simp at this ⊢
        omega
      · rw [if_neg d] at h
        have := merge_len k _ _ _ _ h
        simp at this ⊢
        omega
    · rw [if_neg c] at h; cases h
theorem merge_both (a b : List S33) (ha : a.length ≤ 1000) (hb : b.length ≤ 1000) (k : Nat) (hk : 2 * (a.length + b.length) + 2 ≤ k) : ∃ r, capture_Merge.f k a b = some r ∧ intrusionref09_Merge.f k a b = some r ∧ r.length = a.length + b.length := by
  obtain ⟨r, h1, h2⟩ := merge_loop a b ha hb (a.length + b.length) 0 0 (k - (a.length + b.length) - 1) (k - 2 * (a.length + b.length) - 2) [] (by omega) (by omega) (by omega) (by simp; omega)
  rw [show k - (a.length + b.length) - 1 + (a.length + b.length) + 1 = k by omega, List.drop_zero, List.drop_zero] at h1
  rw [show k - 2 * (a.length + b.length) - 2 + 2 * (a.length + b.length) + 2 = k by omega] at h2
  exact ⟨r, h1, h2, by simpa using merge_len _ _ _ _ _ h1⟩
/-! ### PureCaptureOrdered -/

/-- In order of time. -/
def Asc (l : List S33) : Prop := l.Pairwise fun x y => x.f0 ≤ y.f0
theorem merge_asc : ∀ (k : Nat) (a b out r : List S33), capture_Merge.l0 k a b out = some r → Asc a → Asc b → Asc out → (∀ x ∈ out, ∀ y ∈ a, x.f0 ≤ y.f0) → (∀ x ∈ out, ∀ y ∈ b, x.f0 ≤ y.f0) → Asc r
  | 0, a, b, out, r, h, _, _, _, _, _ => by cases h
  | k + 1, [], [], out, r, h, _, _, ho, _, _ => by
    obtain rfl := Option.some.inj h
    exact ho
  | k + 1, x :: a, [], out, r, h, ha, hb, ho, h1, h2 => by
    rw [capture_Merge.l0] at h
    by_cases c : out.length < 4398046511104
    case neg => rw [if_neg c] at h; cases h
    rw [if_pos c] at h
    obtain ⟨hx, ha2⟩ := List.pairwise_cons.mp ha
    refine merge_asc k a [] (out ++ [x]) r h ha2 hb ?_ ?_ (fun _ _ y hy => by cases hy)
    · exact List.pairwise_append.mpr ⟨ho, List.pairwise_singleton _ _, fun o hO y hy => by rw [List.mem_singleton.mp hy]; exact h1 o hO x List.mem_cons_self⟩
    · intro o hO y hy
      rcases List.mem_append.mp hO with hO | hO
      · exact h1 o hO y (List.mem_cons_of_mem _ hy)
      · rw [List.mem_singleton.mp hO]; exact hx y hy
  | k + 1, [], z :: b, out, r, h, ha, hb, ho, h1, h2 => by
    rw [capture_Merge.l0] at h
    by_cases c : out.length < 4398046511104
    case neg => rw [if_neg c] at h; cases h
    rw [if_pos c] at h
    obtain ⟨hz, hb2⟩ := List.pairwise_cons.mp hb
    refine merge_asc k [] b (out ++ [z]) r h ha hb2 ?_ (fun _ _ y hy => by cases hy) ?_
    · exact List.pairwise_append.mpr ⟨ho, List.pairwise_singleton _ _, fun o hO y hy => by rw [List.mem_singleton.mp hy]; exact h2 o hO z List.mem_cons_self⟩
    · intro o hO y hy
      rcases List.mem_append.mp hO with hO | hO
      · exact h2 o hO y (List.mem_cons_of_mem _ hy)
      · rw [List.mem_singleton.mp hO]; exact hz y hy
  | k + 1, x :: a, z :: b, out, r, h, ha, hb, ho, h1, h2 => by
    rw [capture_Merge.l0] at h
    by_cases c : out.length < 4398046511104
    case neg => rw [if_neg c] at h; cases h
    rw [if_pos c] at h
    obtain ⟨hx, ha2⟩ := List.pairwise_cons.mp ha
    obtain ⟨hz, hb2⟩ := List.pairwise_cons.mp hb
    by_cases d : z.f0 < x.f0
    · rw [if_pos d] at h
      refine merge_asc k (x :: a) b (out ++ [z]) r h ha hb2 ?_ ?_ ?_
      · exact List.pairwise_append.mpr ⟨ho, List.pairwise_singleton _ _, fun o hO y hy => by rw [List.mem_singleton.mp hy]; exact h2 o hO z List.mem_cons_self⟩
      · intro o hO y hy
        rcases List.mem_append.mp hO with hO | hO
        · exact h1 o hO y hy
        · rw [List.mem_singleton.mp hO]
          rcases List.mem_cons.mp hy with rfl | hy
          · omega
          · have := hx y hy; omega
      · intro o hO y hy
        rcases List.mem_append.mp hO with hO | hO
        · exact h2 o hO y (List.mem_cons_of_mem _ hy)
        · rw [List.mem_singleton.mp hO]; exact hz y hy
    · rw [if_neg d] at h
      refine merge_asc k a (z :: b) (out ++ [x]) r h ha2 hb ?_ ?_ ?_
      · exact List.pairwise_append.mpr ⟨ho, List.pairwise_singleton _ _, fun o hO y hy => by rw [List.mem_singleton.mp hy]; exact h1 o hO x List.mem_cons_self⟩
      · intro o hO y hy
        rcases List.mem_append.mp hO with hO | hO
        · exact h1 o hO y (List.mem_cons_of_mem _ hy)
        · rw [List.mem_singleton.mp hO]; exact hx y hy
      · intro o hO y hy
        rcases List.mem_append.mp hO with hO | hO
        · exact h2 o hO y hy
        · rw [List.mem_singleton.mp hO]
          rcases List.mem_cons.mp hy with rfl | hy
          · omega
          · have := hz y hy; omega
theorem merge_none (a : List S33) : ∀ (m k : Nat) (out : List S33), a.length = m → out.length + m ≤ 2000 → capture_Merge.l0 (k + m + 1) a [] out = some (out ++ a) := by
  induction a with
  | nil => intro m k out h _; subst h; simp [capture_Merge.l0]
  | cons x a ih =>
    intro m k out h ho
    obtain ⟨n, rfl⟩ : ∃ n, m = n + 1 := ⟨a.length, by simpa using h.symm⟩
    rw [show k + (n + 1) + 1 = (k + n + 1) + 1 by omega, capture_Merge.l0, if_pos (by omega), ih n k (out ++ [x]) (by simpa using h) (by rw [List.length_append, List.length_singleton]; omega)]
    simp
theorem none_merge (a : List S33) : ∀ (m k : Nat) (out : List S33), a.length = m → out.length + m ≤ 2000 → capture_Merge.l0 (k + m + 1) [] a out = some (out ++ a) := by
  induction a with
  | nil => intro m k out h _; subst h; simp [capture_Merge.l0]
  | cons x a ih =>
    intro m k out h ho
    obtain ⟨n, rfl⟩ : ∃ n, m = n + 1 := ⟨a.length, by simpa using h.symm⟩
    rw [show k + (n + 1) + 1 = (k + n + 1) + 1 by omega, capture_Merge.l0, if_pos (by omega), ih n k (out ++ [x]) (by simpa using h) (by rw [List.length_append, List.length_singleton]; omega)]
    simp
def Adj (l : List S33) (i : Nat) : Prop := ∀ j, 1 ≤ j → j < i → (h : j < l.length) → (l[j - 1]'(by omega)).f0 ≤ l[j].f0
theorem adj_asc (l : List S33) (h : Adj l l.length) : Asc l := by
  refine List.pairwise_iff_getElem.mpr ?_
  intro i j hi hj hij
  obtain ⟨d, rfl⟩ : ∃ d, j = i + 1 + d := ⟨j - i - 1, by omega⟩
  induction d with
  | zero => have := h (i + 1) (by omega) hj hj; simpa using this
  | succ d ih =>
    have h1 := ih (by omega) (by omega)
    have h2 := h (i + 1 + (d + 1)) (by omega) hj hj
    have e : i + 1 + (d + 1) - 1 = i + 1 + d := by omega
    simp only [e] at h2
    exact Int.le_trans h1 h2
theorem asc_adj (l : List S33) (h : Asc l) (j : Nat) (h1 : 1 ≤ j) (hj : j < l.length) : (l[j - 1]'(by omega)).f0 ≤ l[j].f0 := List.pairwise_iff_getElem.mp h (j - 1) j (by omega) hj (by omega)
theorem l2_is (r : List S33) (hr : r.length ≤ 2000) (h : Asc r) : ∀ (m i k : Nat), i + m = r.length + 1 → 1 ≤ i → intrusionlaw09_CaptureOrdered.l2 (k + m + 1) r (i : Int) = some true
  | 0, i, k, hi, h1 => by rw [intrusionlaw09_CaptureOrdered.l2, if_neg (by omega)]
  | m + 1, i, k, hi, h1 => by
    rw [show k + (m + 1) + 1 = (k + m + 1) + 1 by omega, intrusionlaw09_CaptureOrdered.l2]
    by_cases c : (i : Int) < (r.length : Int)
    · have := asc_adj r h i h1 (by omega)
      rw [if_pos c, if_pos (by omega), w64 (n := (i : Int) - 1) (by omega) (by omega), show (i : Int) - 1 = ((i - 1 : Nat) : Int) by omega, if_pos (by omega), if_pos (by omega), rd33 r i (by omega), rd33 r (i - 1) (by omega), if_neg (by omega),
        w64 (n := (i : Int) + 1) (by omega) (by omega), show (i : Int) + 1 = ((i + 1 : Nat) : Int) by omega]
      exact l2_is r hr h m (i + 1) k (by omega) (by omega)
    · rw [if_neg c]
theorem l1_is (b r : List S33) (hb : b.length ≤ 1000) (K : Nat) (hr : Asc b → ∀ k, K ≤ k → intrusionlaw09_CaptureOrdered.l2 k r 1 = some true) : ∀ (m i k : Nat), i + m = b.length + 1 → 1 ≤ i → Adj b i → intrusionlaw09_CaptureOrdered.l1 (K + k + m + 1) b r (i : Int) = some true
  | 0, i, k, hi, h1, hA => by
    rw [intrusionlaw09_CaptureOrdered.l1, if_neg (by omega)]
    exact hr (adj_asc b (fun j h1 h2 h3 => hA j h1 (by omega) h3)) _ (by omega)
  | m + 1, i, k, hi, h1, hA => by
    rw [show K + k + (m + 1) + 1 = (K + k + m + 1) + 1 by omega, intrusionlaw09_CaptureOrdered.l1]
    by_cases c : (i : Int) < (b.length : Int)
    · rw [if_pos c, if_pos (by omega), w64 (n := (i : Int) - 1) (by omega) (by omega), show (i : Int) - 1 = ((i - 1 : Nat) : Int) by omega, if_pos (by omega), if_pos (by omega), rd33 b i (by omega), rd33 b (i - 1) (by omega)]
      by_cases d : b[i].f0 < b[i - 1].f0
      · rw [if_pos d]
      · rw [if_neg d, w64 (n := (i : Int) + 1) (by omega) (by omega), show (i : Int) + 1 = ((i + 1 : Nat) : Int) by omega]
        refine l1_is b r hb K hr m (i + 1) k (by omega) (by omega) (fun j h1 h2 h3 => ?_)
        by_cases e : j = i
        · subst e; omega
        · exact hA j h1 (by omega) h3
    · rw [if_neg c]
      exact hr (adj_asc b (fun j h1 h2 h3 => hA j h1 (by omega) h3)) _ (by omega)
theorem l0_is (a b r : List S33) (ha : a.length ≤ 1000) (K : Nat) (hr : Asc a → ∀ k, K ≤ k → intrusionlaw09_CaptureOrdered.l1 k b r 1 = some true) : ∀ (m i k : Nat), i + m = a.length + 1 → 1 ≤ i → Adj a i → intrusionlaw09_CaptureOrdered.l0 (K + k + m + 1) a b r (i : Int) = some true
  | 0, i, k, hi, h1, hA => by
    rw [intrusionlaw09_CaptureOrdered.l0, if_neg (by omega)]
    exact hr (adj_asc a (fun j h1 h2 h3 => hA j h1 (by omega) h3)) _ (by omega)
  | m + 1, i, k, hi, h1, hA => by
    rw [show K + k + (m + 1) + 1 = (K + k + m + 1) + 1 by omega, intrusionlaw09_CaptureOrdered.l0]
    by_cases c : (i : Int) < (a.length : Int)
    · rw [if_pos c, if_pos (by omega), w64 (n := (i : Int) - 1) (by omega) (by omega), show (i : Int) - 1 = ((i - 1 : Nat) : Int) by omega, if_pos (by omega), if_pos (by omega), rd33 a i (by omega), rd33 a (i - 1) (by omega)]
      by_cases d : a[i].f0 < a[i - 1].f0
      · rw [if_pos d]
      · rw [if_neg d, w64 (n := (i : Int) + 1) (by omega) (by omega), show (i : Int) + 1 = ((i + 1 : Nat) : Int) by omega]
        refine l0_is a b r ha K hr m (i + 1) k (by omega) (by omega) (fun j h1 h2 h3 => ?_)
        by_cases e : j = i
        · subst e; omega
        · exact hA j h1 (by omega) h3
    · rw [if_neg c]
      exact hr (adj_asc a (fun j h1 h2 h3 => hA j h1 (by omega) h3)) _ (by omega)
theorem CaptureOrdered : intrusionlaw09_CaptureOrdered.Pure := by
  intro a b _ _ _ _
  obtain ⟨K, hK⟩ : ∃ K, 10000 = K := ⟨_, rfl⟩
  refine ⟨K + 2, ?_⟩
  unfold intrusionlaw09_CaptureOrdered.f
  obtain ⟨p, hp, hp2⟩ := long_is a (K + 2) (by omega)
  obtain ⟨q, hq, hq2⟩ := long_is b (K + 2) (by omega)
  rw [lives_is (K + 2) (by omega), hp, hq]
  simp only [bs]
  have no : intrusionlaw09_CaptureOrdered.j0 (K + 2) a b true = some true := by rw [intrusionlaw09_CaptureOrdered.j0, if_pos rfl]
  rw [if_pos trivial]
  cases p with
  | true => rw [if_pos rfl, no]
  | false =>
    rw [if_neg (by decide)]
    cases q with
    | true => rw [no]
    | false =>
      have ha := (hp2 rfl).1
      have hb := (hq2 rfl).1
      obtain ⟨r, h1, h2, h3⟩ := merge_both a b (by omega) (by omega) (K + 1) (by omega)
      have e1 := merge_none a a.length (K + 1 - a.length - 1) [] rfl (by simp; omega)
      have e2 := none_merge a a.length (K + 1 - a.length - 1) [] rfl (by simp; omega)
      rw [show K + 1 - a.length - 1 + a.length + 1 = K + 1 by omega, List.nil_append] at e1 e2
      rw [intrusionlaw09_CaptureOrdered.j0, if_neg (by decide), h1]
      simp only [bs]
      rw [w64 (n := (a.length : Int) + (b.length : Int)) (by omega) (by omega), if_pos (by omega)]
      unfold capture_Merge.f
      rw [e1, e2]
      simp only [bs]
      rw [same_is a (by omega) (K + 1) (by omega)]
      simp only [bs, if_true, Bool.not_true]
      rw [intrusionlaw09_CaptureOrdered.j1, if_neg (by decide)]
      have hasc : Asc a → Asc b → Asc r := fun x y => merge_asc _ _ _ _ _ h1 x y List.Pairwise.nil (fun _ h => by cases h) (fun _ h => by cases h)
      have main := l0_is a b r (by omega) 5000 (fun hA k hk => by
        have := l1_is b r (by omega) 3000 (fun hB k hk => by
          have := l2_is r (by omega) (hasc hA hB) r.length 1 (k - r.length - 1) (by omega) (by omega)
          rw [show k - r.length - 1 + r.length + 1 = k by omega, show ((1 : Nat) : Int) = 1 from rfl] at this
          exact this) b.length 1 (k - 3000 - b.length - 1) (by omega) (by omega) (fun j h1 h2 h3 => by omega)
        rw [show 3000 + (k - 3000 - b.length - 1) + b.length + 1 = k by omega, show ((1 : Nat) : Int) = 1 from rfl] at this
        exact this) a.length 1 (K - 5000 - a.length - 1) (by omega) (by omega) (fun j h1 h2 h3 => by omega)
      rw [show 5000 + (K - 5000 - a.length - 1) + a.length + 1 = K by omega, show ((1 : Nat) : Int) = 1 from rfl] at main
      exact main
end Go.Proofs.Ytafjmciojeondaa.Pure

