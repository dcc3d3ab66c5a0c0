/- Small laws of layer 12: a packet is the same as itself, the look at a packet's size, routing headers, and the examples. -/
import Derived.Test.YtljboandbjahdaaIp6C
import Derived.Test.YtljboandbjahdaaX6
import Derived.Test.YtljboandbjahdaaX13
import Derived.Test.YtljboandbjahdaaX11
import Derived.Test.YtljboandbjahdaaX12
namespace Go.Proofs.Ytljboandbjahdaa.Pure
open Go.RowKit Go.Proofs.Ytljboandbjahdaa.X Go.Proofs.YtljboandbjahdaaW.PrintWords Go.Proofs.YtljboandbjahdaaW.PrintLast Go.Proofs.YtljboandbjahdaaW.PrintMore

theorem lives400 : intrusionlaw12_lives.f 400 = some true := by decide +kernel
theorem lives_is (k : Nat) (hk : 400 ≤ k) : intrusionlaw12_lives.f k = some true := at_rounds intrusionlaw12_lives.mono hk lives400
section
variable (c lb h n : Int) (v : Bool) (s1 s2 : Int) (w : Bool) (d1 d2 : Int) (l : List S60) (fr : Bool) (id off : Int) (mo : Bool) (p : ByteArray)
theorem same_loop (hl : l.length ≤ 4611686018427387904) : ∀ (m i k : Nat), i + m = l.length →
    intrusionref12_Same.l0 (k + m + 1) i c lb h n v s1 s2 w d1 d2 l fr id off mo p c lb h n v s1 s2 w d1 d2 l fr id off mo p = some true
  | 0, i, k, hi => by
    unfold intrusionref12_Same.l0
    rw [if_neg (by omega)]
  | m + 1, i, k, hi => by
    rw [show k + (m + 1) + 1 = (k + m + 1) + 1 by omega]
    unfold intrusionref12_Same.l0
    rw [if_pos (by omega), if_pos (by omega), if_pos (by omega), if_neg (by simp), w64 (n := (i : Int) + 1) (by omega) (by omega), show (i : Int) + 1 = ((i + 1 : Nat) : Int) by omega]
    exact same_loop hl m (i + 1) k (by omega)
theorem same_self (hl : l.length ≤ 4611686018427387904) (k : Nat) (hk : l.length + 10 ≤ k) : intrusionref12_Same.f k c lb h n v s1 s2 w d1 d2 l fr id off mo p c lb h n v s1 s2 w d1 d2 l fr id off mo p = some true := by
  obtain ⟨j, rfl⟩ : ∃ j, k = (j + l.length + 1) + 1 := ⟨k - l.length - 2, by omega⟩
  unfold intrusionref12_Same.f
  rw [if_pos rfl, if_pos rfl, if_pos rfl, if_pos rfl, if_neg (by simp), if_neg (by simp), if_neg (by simp), if_pos rfl, if_pos rfl, if_neg (by simp), if_pos rfl, show ((l.length : Int) != (l.length : Int)) = false by simp, intrusionref12_Same.j0, if_neg (by decide)]
  exact same_loop c lb h n v s1 s2 w d1 d2 l fr id off mo p hl l.length 0 j (by omega)
theorem long_loop (most : Int) : ∀ (m i k : Nat), i + m = 11 →
    ∃ b, intrusionref12_Long.l0 (k + 2 * m + 2) most i c lb h n v s1 s2 w d1 d2 l fr id off mo p = some b ∧ (b = false → l.length ≤ 10 ∧ (p.size : Int) ≤ most)
  | 0, i, k, hi => by
    refine ⟨decide (l.length > 10) || decide ((p.size : Int) > most), ?_, ?_⟩
    · unfold intrusionref12_Long.l0
      by_cases a : (i : Int) < l.length
      · rw [if_pos a, intrusionref12_Long.j1, decide_eq_false (by omega), if_neg (by decide), if_pos (by omega), decide_eq_true (show l.length > 10 by omega)]
        rfl
      · rw [if_neg a, intrusionref12_Long.j1, if_neg (by decide)]
        by_cases b : (l.length : Int) > 10
        · rw [if_pos b, decide_eq_true (show l.length > 10 by omega)]; rfl
        · rw [if_neg b, decide_eq_false (show ¬ l.length > 10 by omega)]; rfl
    · intro z
      simp at z
      exact ⟨z.1, z.2⟩
  | m + 1, i, k, hi => by
    rw [show k + 2 * (m + 1) + 2 = (k + 2 * m + 2) + 1 + 1 by omega]
    by_cases a : (i : Int) < l.length
    · by_cases b : ((rd_T60 l (i : Int)).f1.size : Int) > 2100
      · refine ⟨true, ?_, fun z => by cases z⟩
        unfold intrusionref12_Long.l0
        rw [if_pos a, intrusionref12_Long.j1, decide_eq_true (by omega), if_pos rfl, if_pos (by omega), if_pos a, if_pos b]
      · obtain ⟨r, h1, h2⟩ := long_loop most m (i + 1) k (by omega)
        refine ⟨r, ?_, h2⟩
        unfold intrusionref12_Long.l0
        rw [if_pos a, intrusionref12_Long.j1, decide_eq_true (by omega), if_pos rfl, if_pos (by omega), if_pos a, if_neg b, w64 (n := (i : Int) + 1) (by omega) (by omega), show (i : Int) + 1 = ((i + 1 : Nat) : Int) by omega]
        exact h1
    · refine ⟨decide ((p.size : Int) > most), ?_, ?_⟩
      · unfold intrusionref12_Long.l0
        rw [if_neg a, intrusionref12_Long.j1, if_neg (by decide), if_neg (by omega)]
      · intro z
        simp at z
        exact ⟨by omega, z⟩
theorem long_is (most : Int) : ∃ b, (∀ k, 30 ≤ k → intrusionref12_Long.f k c lb h n v s1 s2 w d1 d2 l fr id off mo p most = some b) ∧ (b = false → l.length ≤ 10 ∧ (p.size : Int) ≤ most) := by
  obtain ⟨b, h1, h2⟩ := long_loop c lb h n v s1 s2 w d1 d2 l fr id off mo p most 11 0 0 rfl
  refine ⟨b, fun k hk => ?_, h2⟩
  obtain ⟨b', h1', _⟩ := long_loop c lb h n v s1 s2 w d1 d2 l fr id off mo p most 11 0 (k - 24) rfl
  have e := at_rounds (g := fun k => intrusionref12_Long.f k c lb h n v s1 s2 w d1 d2 l fr id off mo p most) (fun q => by apply intrusionref12_Long.mono) (k := 24) (k' := k) (by omega) (r := b) h1
  exact e
theorem routed_loop (hl : l.length ≤ 4611686018427387904) : ∀ (m i k : Nat), i + m = l.length →
    ipv6_Routed.l0 (k + m + 1) l l.length i = some ((l.drop i).any fun x => decide (x.f0 = 43))
  | 0, i, k, hi => by
    unfold ipv6_Routed.l0
    rw [if_neg (by omega), List.drop_eq_nil_of_le (by omega)]
    rfl
  | m + 1, i, k, hi => by
    have hlt : i < l.length := by omega
    rw [show k + (m + 1) + 1 = (k + m + 1) + 1 by omega]
    unfold ipv6_Routed.l0
    rw [if_pos (by omega), if_pos (by omega), if_pos (by omega), rd60 l i hlt, List.drop_eq_getElem_cons hlt, List.any_cons]
    by_cases a : l[i].f0 = 43
    · rw [if_pos a, decide_eq_true a]; rfl
    · rw [if_neg a, decide_eq_false a, w64 (n := (i : Int) + 1) (by omega) (by omega), show (i : Int) + 1 = ((i + 1 : Nat) : Int) by omega, routed_loop hl m (i + 1) k (by omega)]
      rfl
theorem routed_is (hl : l.length ≤ 4611686018427387904) (k : Nat) (hk : l.length + 1 ≤ k) : ipv6_Routed.f k c lb h n v s1 s2 w d1 d2 l fr id off mo p = some (l.any fun x => decide (x.f0 = 43)) := by
  have q := routed_loop l hl l.length 0 (k - l.length - 1) (by omega)
  rw [show k - l.length - 1 + l.length + 1 = k by omega, List.drop_zero] at q
  exact q
end
end Go.Proofs.Ytljboandbjahdaa.Pure
