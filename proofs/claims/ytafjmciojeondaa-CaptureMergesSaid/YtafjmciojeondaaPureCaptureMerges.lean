/- CaptureMerges as a plain law: Merge of any two lists is the document's, under the law's own bounds, and the examples hold; the records are as large as a machine's memory lets them be. -/
import Derived.Test.YtafjmciojeondaaXDCaptureMerges
import Derived.Test.YtafjmciojeondaaX0
import Derived.Laws.Bits128
import Derived.Laws.BitsAllLaws
import Derived.Lib.EndianBits
import Derived.Test.YtafjmciojeondaaX7
import Derived.Test.YtafjmciojeondaaX8
import Derived.Test.YtafjmciojeondaaX9
import Derived.Test.YtafjmciojeondaaX21
/-! ### Base -/
set_option linter.unusedVariables false
set_option linter.unusedSimpArgs false
namespace Go.Proofs.Ytafjmciojeondaa.Pure
open Go.RowKit Go.Proofs.Ytafjmciojeondaa.X Go.Proofs.YtafjmciojeondaaW.PrintWords Go.Proofs.YtafjmciojeondaaW.PrintLast Go.Proofs.YtafjmciojeondaaW.PrintMore

/-- Told without 'rfl': a simp by it leaves the kernel little to compare. -/
theorem bs {α β : Type} (a : α) (f : α → Option β) : (some a).bind f = f a := by
  cases h : (some a) with
  | none => cases h
  | some b => injection h with h; subst h; rfl
theorem w64 {n : Int} (h : -9223372036854775808 ≤ n) (h' : n < 9223372036854775808) : wrap64 n = n := by unfold wrap64; omega
/-! ### Cap -/

theorem lives100 : intrusionlaw09_lives.f 100 = some true := by decide +kernel
theorem lives_is (k : Nat) (hk : 100 ≤ k) : intrusionlaw09_lives.f k = some true := at_rounds intrusionlaw09_lives.mono hk lives100
theorem rd33 (l : List S33) (i : Nat) (h : i < l.length) : rd_T33 l (i : Int) = l[i] := by
  unfold rd_T33
  rw [Int.toNat_natCast, List.getD_eq_getElem?_getD, List.getElem?_eq_getElem h]
  rfl
theorem same_loop (l : List S33) (hl : l.length ≤ 4611686018427387904) : ∀ (m i k : Nat), i + m = l.length → intrusionref09_Same.l0 (k + m + 1) l l (i : Int) = some true
  | 0, i, k, h => by rw [intrusionref09_Same.l0, if_neg (by omega)]
  | m + 1, i, k, h => by
    rw [show k + (m + 1) + 1 = (k + m + 1) + 1 by omega, intrusionref09_Same.l0, if_pos (by omega), if_pos (by omega), if_pos (by omega), if_neg (by simp), w64 (n := (i : Int) + 1) (by omega) (by omega), show (i : Int) + 1 = ((i + 1 : Nat) : Int) by omega, same_loop l hl m (i + 1) k (by omega)]
theorem same_is (l : List S33) (hl : l.length ≤ 4611686018427387904) (k : Nat) (hk : l.length + 1 ≤ k) : intrusionref09_Same.f k l l = some true := by
  have := same_loop l hl l.length 0 (k - l.length - 1) (by omega)
  rw [show k - l.length - 1 + l.length + 1 = k by omega] at this
  unfold intrusionref09_Same.f
  rw [if_pos rfl]
  exact this
theorem long_loop (l : List S33) : ∀ (m i k : Nat), i + m = 41 → (∀ j, j < i → (h : j < l.length) → l[j].f2.size ≤ 5000) → i ≤ l.length →
    ∃ b, intrusionref09_Long.l0 (k + 2 * m + 2) l (i : Int) = some b ∧ (b = false → l.length ≤ 40 ∧ ∀ x ∈ l, x.f2.size ≤ 5000)
  | 0, i, k, h, hi, hil => by
    refine ⟨decide ((l.length : Int) > 40), ?_, fun hb => ?_⟩
    · rw [show k + 2 * 0 + 2 = (k + 1) + 1 by omega, intrusionref09_Long.l0]
      by_cases c : (i : Int) < (l.length : Int)
      · rw [if_pos c, decide_eq_false (by omega), intrusionref09_Long.j1, if_neg (by decide)]
      · rw [if_neg c, intrusionref09_Long.j1, if_neg (by decide)]
    · have := of_decide_eq_false hb
      omega
  | m + 1, i, k, h, hi, hil => by
    rw [show k + 2 * (m + 1) + 2 = (k + 2 * m + 2 + 1) + 1 by omega, intrusionref09_Long.l0]
    by_cases c : (i : Int) < (l.length : Int)
    · rw [if_pos c, decide_eq_true (by omega), intrusionref09_Long.j1, if_pos rfl, if_pos (by omega), if_pos c, rd33 l i (by omega)]
      by_cases d : (l[i].f2.size : Int) > 5000
      · rw [if_pos d]
        exact ⟨true, rfl, fun hb => by cases hb⟩
      · rw [if_neg d, w64 (n := (i : Int) + 1) (by omega) (by omega), show (i : Int) + 1 = ((i + 1 : Nat) : Int) by omega]
        refine long_loop l m (i + 1) k (by omega) (fun j hj hjl => ?_) (by omega)
        by_cases e : j = i
        · subst e; omega
        · exact hi j (by omega) hjl
    · rw [if_neg c, intrusionref09_Long.j1, if_neg (by decide)]
      refine ⟨_, rfl, fun hb => ⟨by have := of_decide_eq_false hb; omega, fun x hx => ?_⟩⟩
      obtain ⟨j, hj, rfl⟩ := List.getElem_of_mem hx
      exact hi j (by omega) hj
theorem long_is (l : List S33) (k : Nat) (hk : 90 ≤ k) : ∃ b, intrusionref09_Long.f k l = some b ∧ (b = false → l.length ≤ 40 ∧ ∀ x ∈ l, x.f2.size ≤ 5000) := by
  have := long_loop l 41 0 (k - 84) (by omega) (fun j hj => by omega) (by omega)
  rw [show k - 84 + 2 * 41 + 2 = k by omega] at this
  exact this
theorem merge_loop (a b : List S33) (ha : a.length ≤ 1000) (hb : b.length ≤ 1000) : ∀ (n i j k q : Nat) (out : List S33), (a.length - i) + (b.length - j) = n → i ≤ a.length → j ≤ b.length → out.length + n ≤ 2000 →
    ∃ r, capture_Merge.l0 (k + n + 1) (a.drop i) (b.drop j) out = some r ∧ intrusionref09_Merge.l0 (q + 2 * n + 2) a b out (i : Int) (j : Int) = some r
  | 0, i, j, k, q, out, hn, hi, hj, ho => by
    refine ⟨out, ?_, ?_⟩
    · rw [List.drop_eq_nil_of_le (by omega), List.drop_eq_nil_of_le (by omega)]; rfl
    · rw [show q + 2 * 0 + 2 = (q + 1) + 1 by omega, intrusionref09_Merge.l0, if_neg (by omega), intrusionref09_Merge.j1, if_neg (by rw [decide_eq_true_iff]; omega)]
  | n + 1, i, j, k, q, out, hn, hi, hj, ho => by
    have hA : ∀ (h : i < a.length), ∃ r, capture_Merge.l0 (k + n + 1) (a.drop (i + 1)) (b.drop j) (out ++ [a[i]]) = some r ∧ intrusionref09_Merge.l0 (q + 2 * n + 2) a b (out ++ [(⟨(rd_T33 a (i : Int)).f0, (rd_T33 a (i : Int)).f1, (rd_T33 a (i : Int)).f2⟩ : S33)]) (wrap64 ((i : Int) + 1)) (j : Int) = some r := by
      intro h
      rw [rd33 a i h, w64 (n := (i : Int) + 1) (by omega) (by omega), show (i : Int) + 1 = ((i + 1 : Nat) : Int) by omega]
      exact merge_loop a b ha hb n (i + 1) j k q _ (by omega) (by omega) hj (by rw [List.length_append, List.length_singleton]; omega)
    have hB : ∀ (h : j < b.length), ∃ r, capture_Merge.l0 (k + n + 1) (a.drop i) (b.drop (j + 1)) (out ++ [b[j]]) = some r ∧ intrusionref09_Merge.l0 (q + 2 * n + 2) a b (out ++ [(⟨(rd_T33 b (j : Int)).f0, (rd_T33 b (j : Int)).f1, (rd_T33 b (j : Int)).f2⟩ : S33)]) (i : Int) (wrap64 ((j : Int) + 1)) = some r := by
      intro h
      rw [rd33 b j h, w64 (n := (j : Int) + 1) (by omega) (by omega), show (j : Int) + 1 = ((j + 1 : Nat) : Int) by omega]
      exact merge_loop a b ha hb n i (j + 1) k q _ (by omega) hi (by omega) (by rw [List.length_append, List.length_singleton]; omega)
    have hL : out.length < 4398046511104 := by omega
    have hj1 : intrusionref09_Merge.l0 (q + 2 * (n + 1) + 2) a b out (i : Int) (j : Int) = intrusionref09_Merge.j1 (q + 2 * n + 2 + 1) a b out (i : Int) (j : Int) true := by
      rw [show q + 2 * (n + 1) + 2 = (q + 2 * n + 2 + 1) + 1 by omega, intrusionref09_Merge.l0]
      by_cases c : (i : Int) < (a.length : Int)
      · rw [if_pos c]
      · rw [if_neg c, decide_eq_true (by omega)]
    rw [hj1, intrusionref09_Merge.j1, if_pos rfl, show k + (n + 1) + 1 = (k + n + 1) + 1 by omega]
    by_cases cb : (j : Int) = (b.length : Int)
    · obtain ⟨r, h1, h2⟩ := hA (by omega)
      refine ⟨r, ?_, ?_⟩
      · rw [List.drop_eq_getElem_cons (show i < a.length by omega), show b.drop j = [] from List.drop_eq_nil_of_le (by omega)]
        rw [show b.drop j = [] from List.drop_eq_nil_of_le (by omega)] at h1
        rw [capture_Merge.l0, if_pos hL]
        exact h1
      · rw [if_pos cb, if_pos (by omega), if_pos (by omega), if_pos hL]
        exact h2
    rw [if_neg cb]
    by_cases ca : (i : Int) < (a.length : Int)
    case neg =>
      obtain ⟨r, h1, h2⟩ := hB (by omega)
      refine ⟨r, ?_, ?_⟩
      · rw [List.drop_eq_getElem_cons (show j < b.length by omega), show a.drop i = [] from List.drop_eq_nil_of_le (by omega)]
        rw [show a.drop i = [] from List.drop_eq_nil_of_le (by omega)] at h1
        rw [capture_Merge.l0, if_pos hL]
        exact h1
      · rw [if_neg ca, if_pos (by omega), if_pos (by omega), if_pos hL]
        exact h2
    have hia : i < a.length := by omega
    have hjb : j < b.length := by omega
    rw [if_pos ca, if_pos (by omega), if_pos (by omega), if_pos (by omega), rd33 a i hia, rd33 b j hjb]
    have e2 : capture_Merge.l0 (k + n + 1 + 1) (a.drop i) (b.drop j) out = if b[j].f0 < a[i].f0 then capture_Merge.l0 (k + n + 1) (a.drop i) (b.drop (j + 1)) (out ++ [b[j]]) else capture_Merge.l0 (k + n + 1) (a.drop (i + 1)) (b.drop j) (out ++ [a[i]]) := by
      rw [List.drop_eq_getElem_cons hia, List.drop_eq_getElem_cons hjb, capture_Merge.l0, if_pos hL]
    by_cases cc : a[i].f0 ≤ b[j].f0
    · obtain ⟨r, h1, h2⟩ := hA hia
      rw [rd33 a i hia] at h2
      refine ⟨r, ?_, ?_⟩
      · rw [e2, if_neg (by omega)]; exact h1
      · rw [if_pos cc, if_pos hL]; exact h2
    · obtain ⟨r, h1, h2⟩ := hB hjb
      rw [rd33 b j hjb] at h2
      refine ⟨r, ?_, ?_⟩
      · rw [e2, if_pos (by omega)]; exact h1
      · rw [if_neg cc, if_pos hL]; exact h2
theorem merge_len : ∀ (k : Nat) (a b out r : List S33), capture_Merge.l0 k a b out = some r → r.length = a.length + b.length + out.length
  | 0, a, b, out, r, h => by cases h
  | k + 1, [], [], out, r, h => by
    obtain rfl := Option.some.inj h
    simp
  | k + 1, x :: a, [], out, r, h => by
    rw [capture_Merge.l0] at h
    by_cases c : out.length < 4398046511104
    · rw [if_pos c] at h
      have := merge_len k _ _ _ _ h
      simp at this ⊢
      omega
    · rw [if_neg c] at h; cases h
  | k + 1, [], y :: b, out, r, h => by
    rw [capture_Merge.l0] at h
    by_cases c : out.length < 4398046511104
    · rw [if_pos c] at h
      have := merge_len k _ _ _ _ h
      simp at this ⊢
      omega
    · rw [if_neg c] at h; cases h
  | k + 1, x :: a, y :: b, out, r, h => by
    rw [capture_Merge.l0] at h
    by_cases c : out.length < 4398046511104
    · rw [if_pos c] at h
      by_cases d : y.f0 < x.f0
      · rw [if_pos d] at h
        have := merge_len k _ _ _ _ h
        simp at this ⊢
        omega
      · rw [if_neg d] at h
        have := merge_len k _ _ _ _ h
        simp at this ⊢
        omega
    · rw [if_neg c] at h; cases h
theorem merge_both (a b : List S33) (ha : a.length ≤ 1000) (hb : b.length ≤ 1000) (k : Nat) (hk : 2 * (a.length + b.length) + 2 ≤ k) : ∃ r, capture_Merge.f k a b = some r ∧ intrusionref09_Merge.f k a b = some r ∧ r.length = a.length + b.length := by
  obtain ⟨r, h1, h2⟩ := merge_loop a b ha hb (a.length + b.length) 0 0 (k - (a.length + b.length) - 1) (k - 2 * (a.length + b.length) - 2) [] (by omega) (by omega) (by omega) (by simp; omega)
  rw [show k - (a.length + b.length) - 1 + (a.length + b.length) + 1 = k by omega, List.drop_zero, List.drop_zero] at h1
  rw [show k - 2 * (a.length + b.length) - 2 + 2 * (a.length + b.length) + 2 = k by omega] at h2
  exact ⟨r, h1, h2, by simpa using merge_len _ _ _ _ _ h1⟩
/-! ### PureCaptureMerges -/

theorem CaptureMerges : intrusionlaw09_CaptureMerges.Pure := by
  intro a b _ _ _ _
  obtain ⟨K, hK⟩ : ∃ K, 1000 = K := ⟨_, rfl⟩
  refine ⟨K + 1, ?_⟩
  unfold intrusionlaw09_CaptureMerges.f
  obtain ⟨p, hp, hp2⟩ := long_is a (K + 1) (by omega)
  obtain ⟨q, hq, hq2⟩ := long_is b (K + 1) (by omega)
  rw [hp, hq]
  simp only [bs]
  have no : intrusionlaw09_CaptureMerges.j0 (K + 1) a b true = some true := by
    rw [intrusionlaw09_CaptureMerges.j0, if_pos rfl, lives_is K (by omega)]
    simp only [bs]
  cases p with
  | true => rw [if_pos rfl, no]
  | false =>
    rw [if_neg (by decide)]
    cases q with
    | true => rw [no]
    | false =>
      have ha := (hp2 rfl).1
      have hb := (hq2 rfl).1
      obtain ⟨r, h1, h2, h3⟩ := merge_both a b (by omega) (by omega) K (by omega)
      rw [intrusionlaw09_CaptureMerges.j0, if_neg (by decide), h1, h2]
      simp only [bs]
      rw [same_is r (by omega) K (by omega)]
      simp only [bs]
      rw [if_pos trivial, lives_is K (by omega)]
      simp only [bs]
end Go.Proofs.Ytafjmciojeondaa.Pure

