/- Ipv6Fragments as a plain law: Fragment and Routed of any packet are the document's, and the examples hold; the packet is as large as a machine's memory lets it be. -/
import Derived.Test.YtljboandbjahdaaXDIpv6Fragments
import Derived.Test.YtljboandbjahdaaIp6S
import Derived.Test.YtljboandbjahdaaX23
namespace Go.Proofs.Ytljboandbjahdaa.Pure
open Go.RowKit Go.Proofs.Ytljboandbjahdaa.X Go.Proofs.YtljboandbjahdaaW.PrintWords Go.Proofs.YtljboandbjahdaaW.PrintLast Go.Proofs.YtljboandbjahdaaW.PrintMore

theorem rrouted_loop (c lb h n : Int) (v : Bool) (s1 s2 : Int) (w : Bool) (d1 d2 : Int) (l : List S60) (fr : Bool) (id off : Int) (mo : Bool) (p : ByteArray) (hl : l.length ≤ 4611686018427387904) : ∀ (m i k : Nat), i + m = l.length →
    intrusionref12_Routed.l0 (k + m + 1) i c lb h n v s1 s2 w d1 d2 l fr id off mo p = some ((l.drop i).any fun x => decide (x.f0 = 43))
  | 0, i, k, hi => by
    unfold intrusionref12_Routed.l0
    rw [if_neg (by omega), List.drop_eq_nil_of_le (by omega)]
    rfl
  | m + 1, i, k, hi => by
    have hlt : i < l.length := by omega
    rw [show k + (m + 1) + 1 = (k + m + 1) + 1 by omega]
    unfold intrusionref12_Routed.l0
    rw [if_pos (by omega), if_pos (by omega), rd60 l i hlt, List.drop_eq_getElem_cons hlt, List.any_cons]
    by_cases a : l[i].f0 = 43
    · rw [if_pos a, decide_eq_true a]; rfl
    · rw [if_neg a, decide_eq_false a, w64 (n := (i : Int) + 1) (by omega) (by omega), show (i : Int) + 1 = ((i + 1 : Nat) : Int) by omega, rrouted_loop c lb h n v s1 s2 w d1 d2 l fr id off mo p hl m (i + 1) k (by omega)]
      rfl
theorem Ipv6Fragments : intrusionlaw12_Ipv6Fragments.Pure := by
  intro c lb h n v s1 s2 w d1 d2 l fr id off mo p _ _ _ _ _ _ _ _ hl _ _ _ hp
  obtain ⟨K, hK⟩ : ∃ K, 500 = K := ⟨_, rfl⟩
  obtain ⟨b, hb, hb2⟩ := long_is c lb h n v s1 s2 w d1 d2 l fr id off mo p 3000
  refine ⟨K, ?_⟩
  unfold intrusionlaw12_Ipv6Fragments.f
  rw [hb K (by omega)]
  simp only [bs]
  cases b with
  | true =>
    rw [if_pos rfl, lives_is _ (by omega)]
    simp only [bs]
  | false =>
    obtain ⟨h10, _⟩ := hb2 rfl
    have q := rrouted_loop c lb h n v s1 s2 w d1 d2 l fr id off mo p (by omega) l.length 0 (K - l.length - 1) (by omega)
    rw [show K - l.length - 1 + l.length + 1 = K by omega, List.drop_zero] at q
    rw [if_neg (by decide), routed_is c lb h n v s1 s2 w d1 d2 l fr id off mo p (by omega) K (by omega), lives_is _ (by omega)]
    unfold ipv6_Fragment.f intrusionref12_Fragment.f intrusionref12_Routed.f
    simp only [bs]
    rw [show (0 : Int) = ((0 : Nat) : Int) from rfl, q]
    simp only [bs]
    simp
end Go.Proofs.Ytljboandbjahdaa.Pure
