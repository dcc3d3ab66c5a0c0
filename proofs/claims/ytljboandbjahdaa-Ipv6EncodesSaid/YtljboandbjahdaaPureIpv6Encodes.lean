/- Ipv6Encodes as a plain law: Encode of any packet is the document's, and the examples hold; the packet is as large as a machine's memory lets it be. -/
import Derived.Test.YtljboandbjahdaaXDIpv6Encodes
import Derived.Test.YtljboandbjahdaaIp6S
import Derived.Test.YtljboandbjahdaaIp6R
namespace Go.Proofs.Ytljboandbjahdaa.Pure
open Go.RowKit Go.Proofs.Ytljboandbjahdaa.X Go.Proofs.YtljboandbjahdaaW.PrintWords Go.Proofs.YtljboandbjahdaaW.PrintLast Go.Proofs.YtljboandbjahdaaW.PrintMore

theorem Ipv6Encodes : intrusionlaw12_Ipv6Encodes.Pure := by
  intro c lb h n v s1 s2 w d1 d2 l fr id off mo p _ _ _ _ _ _ _ _ hl _ _ _ hp
  obtain ⟨K, hK⟩ : ∃ K, 500 = K := ⟨_, rfl⟩
  obtain ⟨b, hb, hb2⟩ := long_is c lb h n v s1 s2 w d1 d2 l fr id off mo p 66000
  refine ⟨K, ?_⟩
  unfold intrusionlaw12_Ipv6Encodes.f
  rw [hb K (by omega)]
  simp only [bs]
  cases b with
  | true =>
    rw [if_pos rfl, lives_is _ (by omega)]
    simp only [bs]
  | false =>
    obtain ⟨h10, h66⟩ := hb2 rfl
    rw [if_neg (by decide), encode_is c lb h n v s1 s2 w d1 d2 l fr id off mo p (by omega) (by omega) K (by omega), rencode_is c lb h n v s1 s2 w d1 d2 l fr id off mo p (by omega) K (by omega), lives_is _ (by omega)]
    simp only [bs, if_true]
end Go.Proofs.Ytljboandbjahdaa.Pure
