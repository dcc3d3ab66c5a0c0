/- Ipv6Splits as a plain law: Split of any packet is the document's, and the examples hold, under the law's own bounds; the packet is as large as a machine's memory lets it be. -/
import Derived.Test.YtljboandbjahdaaXDIpv6Splits
import Derived.Test.YtljboandbjahdaaIp6S
import Derived.Test.YtljboandbjahdaaIp6R
import Derived.Test.YtljboandbjahdaaIp6L
import Derived.Test.YtljboandbjahdaaX21
set_option linter.unusedVariables false
set_option linter.unusedSimpArgs false
namespace Go.Proofs.Ytljboandbjahdaa.Pure
open Go.RowKit Go.Proofs.Ytljboandbjahdaa.X Go.Proofs.YtljboandbjahdaaW.PrintWords Go.Proofs.YtljboandbjahdaaW.PrintLast Go.Proofs.YtljboandbjahdaaW.PrintMore

theorem rd28 (l : List S28) (i : Nat) (h : i < l.length) : rd_T28 l (i : Int) = l[i] := by
  unfold rd_T28
  rw [Int.toNat_natCast, List.getD_eq_getElem?_getD, List.getElem?_eq_getElem h]
  rfl
theorem all_loop (x : List S28) (hx : ∀ y ∈ x, y.f6.length ≤ 10) (hl : x.length ≤ 4611686018427387904) : ∀ (m i k : Nat), i + m = x.length →
    intrusionref12_All.l0 (k + m + 30) x x i = some true
  | 0, i, k, hi => by
    rw [show k + 0 + 30 = (k + 29) + 1 by omega]
    unfold intrusionref12_All.l0
    rw [if_neg (by omega)]
  | m + 1, i, k, hi => by
    have hlt : i < x.length := by omega
    have hf := hx x[i] (List.getElem_mem hlt)
    rw [show k + (m + 1) + 30 = (k + m + 30) + 1 by omega]
    unfold intrusionref12_All.l0
    rw [if_pos (by omega), if_pos (by omega), if_pos (by omega), rd28 x i hlt, same_self _ _ _ _ _ _ _ _ _ _ _ _ _ _ _ _ (by omega) _ (by omega)]
    simp only [bs, if_true]
    rw [w64 (n := (i : Int) + 1) (by omega) (by omega), show (i : Int) + 1 = ((i + 1 : Nat) : Int) by omega]
    exact all_loop x hx hl m (i + 1) k (by omega)
theorem all_self (x : List S28) (hx : ∀ y ∈ x, y.f6.length ≤ 10) (hl : x.length ≤ 4611686018427387904) (k : Nat) (hk : x.length + 30 ≤ k) : intrusionref12_All.f k x x = some true := by
  have q := all_loop x hx hl x.length 0 (k - x.length - 30) (by omega)
  rw [show k - x.length - 30 + x.length + 30 = k by omega] at q
  unfold intrusionref12_All.f
  rw [if_pos rfl]
  exact q
section
variable (c lb h n : Int) (v : Bool) (s1 s2 : Int) (w : Bool) (d1 d2 : Int) (l : List S60) (p : ByteArray) (sz id : Int) (fr : Bool) (id0 off : Int) (mo : Bool)
theorem rsplit_loop (hl : l.length ≤ 10) (hp : p.size ≤ 66000) (hsz : 1 ≤ sz) (hs2 : sz < 9223372036854775808) : ∀ (m k a : Nat) (out : List S28), a ≤ p.size → out.length ≤ a → p.size < a + m →
    intrusionref12_Split.l0 (k + 3 * m + 200) sz id out (a : Int) c lb h n v s1 s2 w d1 d2 l fr id0 off mo p = some (splitL c lb h n v s1 s2 w d1 d2 l p sz id m a out)
  | 0, k, a, out, ha, _, hm => by omega
  | m + 1, k, a, out, ha, hout, hm => by
    rw [show k + 3 * (m + 1) + 200 = (k + 3 * m + 200 + 1) + 1 + 1 by omega, intrusionref12_Split.l0]
    have hj : (if (a : Int) = 0 then intrusionref12_Split.j2 (k + 3 * m + 200 + 1 + 1) sz id out (a : Int) true c lb h n v s1 s2 w d1 d2 l fr id0 off mo p else intrusionref12_Split.j2 (k + 3 * m + 200 + 1 + 1) sz id out (a : Int) (decide ((a : Int) < (p.size : Int))) c lb h n v s1 s2 w d1 d2 l fr id0 off mo p)
        = intrusionref12_Split.j2 (k + 3 * m + 200 + 1 + 1) sz id out (a : Int) (decide (a = 0 ∨ a < p.size)) c lb h n v s1 s2 w d1 d2 l fr id0 off mo p := by
      by_cases z : a = 0
      · rw [if_pos (by omega), decide_eq_true (show a = 0 ∨ a < p.size from .inl z)]
      · rw [if_neg (by omega)]
        congr 1
        apply decide_eq_decide.mpr
        omega
    rw [hj, intrusionref12_Split.j2]
    unfold splitL
    by_cases hc : a = 0 ∨ a < p.size
    · rw [if_pos (decide_eq_true hc), if_pos hc]
      have he : endOf p sz a ≤ p.size ∧ a ≤ endOf p sz a := by unfold endOf; omega
      have hw : wrap64 ((a : Int) + mn sz (wrap64 ((p.size : Int) - (a : Int)))) = ((endOf p sz a : Nat) : Int) := by
        rw [w64 (n := (p.size : Int) - (a : Int)) (by omega) (by omega)]
        unfold mn
        split
        · rw [w64 (by omega) (by omega)]; unfold endOf; omega
        · rw [w64 (by omega) (by omega)]; unfold endOf; omega
      have hx : wrap64 ((a : Int) + mx (mn sz (wrap64 ((p.size : Int) - (a : Int)))) 1) = ((if endOf p sz a = a then a + 1 else endOf p sz a : Nat) : Int) := by
        have hm0 : mn sz (wrap64 ((p.size : Int) - (a : Int))) = ((endOf p sz a : Nat) : Int) - a := by
          rw [w64 (n := (p.size : Int) - (a : Int)) (by omega) (by omega)]
          unfold mn endOf
          split <;> omega
        rw [hm0]
        unfold mx
        split
        · rw [w64 (by omega) (by omega), if_pos (by omega)]; omega
        · rw [w64 (by omega) (by omega), if_neg (by omega)]; omega
      rw [hw, hx]
      generalize hE : endOf p sz a = E at he
      have hz : (p.extract a E).size ≤ 66000 := by rw [ByteArray.size_extract]; omega
      rw [if_pos (by omega), if_pos (by omega), if_pos (by omega), Int.toNat_natCast, Int.toNat_natCast, rencode_is c lb h n v s1 s2 w d1 d2 l true id (a : Int) _ (p.extract a E) (by omega) _ (by omega)]
      simp only [bs]
      unfold errE
      by_cases h0 : (encOf c lb h n v s1 s2 w d1 d2 l true id (a : Int) (decide ((E : Int) < (p.size : Int))) (p.extract a E)).2 = 0
      · rw [if_pos h0, if_pos h0, if_pos (by omega)]
        by_cases hEa : E = a
        · have h1 : a = p.size := by unfold endOf at hE; omega
          rw [if_pos hEa, if_pos hEa, show k + 3 * m + 200 + 1 = (k + 3 * m + 199) + 1 + 1 by omega, intrusionref12_Split.l0, if_neg (by omega), intrusionref12_Split.j2, decide_eq_false (by omega), if_neg (by decide)]
          rfl
        · rw [if_neg hEa, if_neg hEa, show k + 3 * m + 200 + 1 = (k + 1) + 3 * m + 200 by omega, rsplit_loop hl hp hsz hs2 m (k + 1) E _ (by omega) (by simp; omega) (by omega)]
          rfl
      · rw [if_neg h0, if_neg h0]
    · rw [if_neg (by rw [decide_eq_true_iff]; exact hc), if_neg hc]
theorem rsplit_is (hl : l.length ≤ 10) (hp : p.size ≤ 66000) (hs2 : sz < 9223372036854775808) (m k : Nat) (hm : 66000 < m) (hk : 3 * m + 300 ≤ k) :
    intrusionref12_Split.f k c lb h n v s1 s2 w d1 d2 l fr id0 off mo p sz id = some (splitOf c lb h n v s1 s2 w d1 d2 l p sz id fr id0 off mo m) := by
  obtain ⟨j, rfl⟩ : ∃ j, k = (j + 3 * m + 200) + 1 := ⟨k - 3 * m - 201, by omega⟩
  unfold intrusionref12_Split.f splitOf
  rw [rencode_is c lb h n v s1 s2 w d1 d2 l fr id0 off mo p (by omega) _ (by omega)]
  simp only [bs]
  by_cases h0 : (encOf c lb h n v s1 s2 w d1 d2 l fr id0 off mo p).2 = 0
  · rw [if_pos h0, if_pos h0]
    have no : intrusionref12_Split.j0 (j + 3 * m + 200 + 1) sz id true c lb h n v s1 s2 w d1 d2 l fr id0 off mo p = some ([], 4) := by rw [intrusionref12_Split.j0, if_pos rfl]
    by_cases a : sz < 1
    · rw [if_pos a, no, if_neg (fun z => by omega)]
    · rw [if_neg a]
      by_cases b : Int.tmod sz 8 = 0
      · rw [if_pos b]
        by_cases q1 : id < 0
        · rw [if_pos q1, no, if_neg (fun z => by omega)]
        · rw [if_neg q1]
          by_cases q : id ≥ 4294967296
          · rw [decide_eq_true q, no, if_neg (fun z => by omega)]
          · rw [decide_eq_false q, if_pos (show 1 ≤ sz ∧ Int.tmod sz 8 = 0 ∧ 0 ≤ id ∧ id ≤ 4294967295 from ⟨by omega, b, by omega, by omega⟩), intrusionref12_Split.j0, if_neg (by decide)]
            cases fr with
            | true => rw [if_pos rfl, if_pos rfl]
            | false =>
              rw [if_neg (by decide), if_neg (by decide)]
              exact rsplit_loop c lb h n v s1 s2 w d1 d2 l p sz id false id0 off mo hl hp (by omega) hs2 m j 0 [] (by omega) (by simp) (by omega)
      · rw [if_neg b, no, if_neg (fun z => b z.2.1)]
  · rw [if_neg h0, if_neg h0]
theorem splitOf_ok (m : Nat) (hl : l.length ≤ 10) : (splitOf c lb h n v s1 s2 w d1 d2 l p sz id fr id0 off mo m).1.length ≤ m ∧ ∀ y ∈ (splitOf c lb h n v s1 s2 w d1 d2 l p sz id fr id0 off mo m).1, y.f6.length ≤ 10 := by
  unfold splitOf
  split
  · split
    · split
      · simp
      · exact ⟨by have := splitL_len c lb h n v s1 s2 w d1 d2 l p sz id m 0 []; simpa using this, splitL_all c lb h n v s1 s2 w d1 d2 l p sz id (fun q => q.length ≤ 10) hl m 0 [] (by simp)⟩
    · simp
  · simp
end
theorem Ipv6Splits : intrusionlaw12_Ipv6Splits.Pure := by
  intro c lb h n v s1 s2 w d1 d2 l fr id0 off mo p sz id _ _ _ _ _ _ _ _ hl _ _ _ hp hsz hid
  have hs := wf_i64 hsz
  obtain ⟨M, hM⟩ : ∃ M, 66010 = M := ⟨_, rfl⟩
  obtain ⟨K, hK⟩ : ∃ K, 3 * M + 1000 = K := ⟨_, rfl⟩
  obtain ⟨b, hb, hb2⟩ := long_is c lb h n v s1 s2 w d1 d2 l fr id0 off mo p 66000
  refine ⟨K + 1, ?_⟩
  have yes : intrusionlaw12_Ipv6Splits.j0 (K + 1) sz id true c lb h n v s1 s2 w d1 d2 l fr id0 off mo p = some true := by
    rw [intrusionlaw12_Ipv6Splits.j0, if_pos rfl, lives_is _ (by omega)]
    simp only [bs]
  unfold intrusionlaw12_Ipv6Splits.f
  rw [hb (K + 1) (by omega)]
  simp only [bs]
  cases b with
  | true => rw [if_pos rfl]; exact yes
  | false =>
    obtain ⟨h10, h66⟩ := hb2 rfl
    have run : intrusionlaw12_Ipv6Splits.j0 (K + 1) sz id false c lb h n v s1 s2 w d1 d2 l fr id0 off mo p = some true := by
      rw [intrusionlaw12_Ipv6Splits.j0, if_neg (by decide), split_is c lb h n v s1 s2 w d1 d2 l p sz id fr id0 off mo h10 (by omega) hs.2 M K (by omega) (by omega), rsplit_is c lb h n v s1 s2 w d1 d2 l p sz id fr id0 off mo h10 (by omega) hs.2 M K (by omega) (by omega), lives_is _ (by omega)]
      obtain ⟨o1, o2⟩ := splitOf_ok c lb h n v s1 s2 w d1 d2 l p sz id fr id0 off mo M h10
      generalize splitOf c lb h n v s1 s2 w d1 d2 l p sz id fr id0 off mo M = t at o1 o2
      simp only [bs]
      rw [all_self t.1 o2 (by omega) K (by omega)]
      simp only [bs, if_true]
    rw [if_neg (by decide)]
    by_cases h2 : (p.size : Int) > 2000
    · rw [if_pos h2]
      by_cases h3 : sz > 0
      · rw [if_pos h3]
        by_cases h5 : sz < 5000
        · rw [decide_eq_true h5]; exact yes
        · rw [decide_eq_false h5]; exact run
      · rw [if_neg h3]; exact run
    · rw [if_neg h2]; exact run
end Go.Proofs.Ytljboandbjahdaa.Pure
