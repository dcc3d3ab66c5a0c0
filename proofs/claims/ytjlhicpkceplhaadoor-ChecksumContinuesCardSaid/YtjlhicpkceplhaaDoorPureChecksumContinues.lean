/- ChecksumContinues as a plain law: the CRC-32 of a joined string is the continued one, and the Sum of two strings of even length doesn't depend on their order; no condition but that a machine holds the strings. -/
import Derived.Test.YtjlhicpkceplhaaDoorXDChecksumContinues
import Derived.Test.YtjlhicpkceplhaaDoorCrc02
namespace Go.Proofs.YtjlhicpkceplhaaDoor.Pure
open Go.RowKit Go.Proofs.YtjlhicpkceplhaaDoor.X Go.Proofs.YtjlhicpkceplhaaDoorW.PrintWords Go.Proofs.YtjlhicpkceplhaaDoorW.PrintLast Go.Proofs.YtjlhicpkceplhaaDoorW.PrintMore

theorem continues_j1 (a b : ByteArray) (ha : a.size ≤ 140737488351232) (hb : b.size ≤ 140737488351232) (k : Nat) (hk : a.size + b.size + 12 < k) :
    intrusionlaw02_ChecksumContinues.j1 k a b false = some true := by
  obtain ⟨k, rfl⟩ : ∃ n, k = n + 1 := ⟨k - 1, by omega⟩
  rw [intrusionlaw02_ChecksumContinues.j1]
  have s1 := size_append a b
  have s2 := size_append b a
  rw [awake_is _ (by omega), sum_is _ (by omega) _ (by omega), sum_is _ (by omega) _ (by omega)]
  have q1 : a.size + b.size ≤ 9223372036854775807 := by omega
  have q2 : b.size + a.size ≤ 9223372036854775807 := by omega
  simp only [Option.bind_some, q1, q2, if_true]
  have la := bytesOf_length a
  have lb := bytesOf_length b
  by_cases h1 : (a.size : Int) % 2 = 1
  · simp [h1]
  · by_cases h2 : (b.size : Int) % 2 = 1
    · simp [h1, h2]
    · have e : sumOf (a ++ b) = sumOf (b ++ a) := by
        unfold sumOf
        rw [bytesOf_append, bytesOf_append, tot_append _ _ (by omega), tot_append _ _ (by omega), Int.add_comm]
      simp [h1, h2, e]
theorem continues_j0 (a b : ByteArray) (x : Bool) (ha : a.size ≤ 140737488351232) (hb : b.size ≤ 140737488351232) (k : Nat) (hk : a.size + b.size + 14 < k) :
    intrusionlaw02_ChecksumContinues.j0 k a b x = some true := by
  obtain ⟨k, rfl⟩ : ∃ n, k = n + 1 := ⟨k - 1, by omega⟩
  rw [intrusionlaw02_ChecksumContinues.j0]
  have s1 := size_append a b
  have hl := crcOf_lt 0 a (by decide)
  rw [awake_is _ (by omega), crc_is a (by omega), crc_is (a ++ b) (by omega)]
  simp only [Option.bind_some]
  have q1 : a.size + b.size ≤ 9223372036854775807 := by omega
  rw [crcUpdate_is _ b hl (by omega), crcUpdate_is _ _ hl (by decide), crcOf_append, crcOf_nil]
  simp only [Option.bind_some, q1, if_true, bne_self_eq_false]
  rw [continues_j1 a b ha hb k (by omega)]
  simp

theorem ChecksumContinues : intrusionlaw02_ChecksumContinues.Pure := by
  intro a b ha hb
  refine ⟨a.size + b.size + 20, ?_⟩
  unfold intrusionlaw02_ChecksumContinues.f intrusionlaw02_long.f
  simp only [Option.bind_some]
  split <;> exact continues_j0 a b _ ha hb _ (by omega)

end Go.Proofs.YtjlhicpkceplhaaDoor.Pure
