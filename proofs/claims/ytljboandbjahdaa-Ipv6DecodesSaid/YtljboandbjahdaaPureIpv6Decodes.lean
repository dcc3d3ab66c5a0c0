/- Ipv6Decodes as a plain law: Decode of any string of at most 3000 bytes is the document's, and the examples hold; no further condition. -/
import Derived.Test.YtljboandbjahdaaXDIpv6Decodes
import Derived.Test.YtljboandbjahdaaIp6S
import Derived.Test.YtljboandbjahdaaIp6U
namespace Go.Proofs.Ytljboandbjahdaa.Pure
open Go.RowKit Go.Proofs.Ytljboandbjahdaa.X Go.Proofs.YtljboandbjahdaaW.PrintWords Go.Proofs.YtljboandbjahdaaW.PrintLast Go.Proofs.YtljboandbjahdaaW.PrintMore

theorem walk_len : ∀ (m : Nat) (first : Bool) (nx : Int) (l : List S60) (fr : Bool) (id off : Int) (mo : Bool) (r : List Int), l.length ≤ 8 → (walkOf m first nx l fr id off mo r).2.1.length ≤ 8
  | 0, _, _, _, _, _, _, _, _, _ => by simp [walkOf]
  | m + 1, first, nx, l, fr, id, off, mo, r, hl => by
    unfold walkOf
    split
    · exact hl
    · split
      · simp
      · split
        · simp
        · rename_i h8
          split
          · simp
          · split
            · exact walk_len m _ _ _ _ _ _ _ _ hl
            · rename_i h44
              refine walk_len m _ _ _ _ _ _ _ _ ?_
              have : l.length ≠ 8 := fun z => h8 ⟨h44, z⟩
              simp
              omega
theorem dec_len (m : Nat) (L : List Int) : (decOf m L).2.2.2.2.2.2.2.2.2.2.1.length ≤ 8 := by
  unfold decOf
  split
  · simp [badP]
  · split
    · simp [badP]
    · split
      · simp [badP]
      · unfold packP
        split
        · exact walk_len _ _ _ _ _ _ _ _ _ (by simp)
        · simp [badP]
theorem Ipv6Decodes : intrusionlaw12_Ipv6Decodes.Pure := by
  intro s hs
  obtain ⟨M, hM⟩ : ∃ M, 8200 = M := ⟨_, rfl⟩
  obtain ⟨K, hK⟩ : ∃ K, 5 * M + 500 = K := ⟨_, rfl⟩
  refine ⟨K, ?_⟩
  unfold intrusionlaw12_Ipv6Decodes.f
  by_cases h : (s.size : Int) > 3000
  · rw [if_pos h, lives_is _ (by omega)]
    simp only [bs]
  · rw [if_neg h, decode_is s (by omega) M K (by omega) (by omega), rdecode_is s (by omega) M K (by omega) (by omega), lives_is _ (by omega)]
    have hd := dec_len M (bytesOf s)
    generalize decOf M (bytesOf s) = t at hd
    simp only [bs]
    rw [same_self _ _ _ _ _ _ _ _ _ _ _ _ _ _ _ _ (by omega) K (by omega)]
    simp only [bs, if_true]
end Go.Proofs.Ytljboandbjahdaa.Pure
