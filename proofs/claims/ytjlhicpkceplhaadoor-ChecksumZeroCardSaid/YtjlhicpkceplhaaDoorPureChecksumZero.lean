/- ChecksumZero as a plain law: a string of even length with its checksum behind it has the Sum 0; no condition but that a machine holds the string. -/
import Derived.Test.YtjlhicpkceplhaaDoorXDChecksumZero
import Derived.Test.YtjlhicpkceplhaaDoorRef02
import Derived.Test.YtjlhicpkceplhaaDoorField
namespace Go.Proofs.YtjlhicpkceplhaaDoor.Pure
open Go.RowKit Go.Proofs.YtjlhicpkceplhaaDoor.X Go.Proofs.YtjlhicpkceplhaaDoorW.PrintWords Go.Proofs.YtjlhicpkceplhaaDoorW.PrintLast Go.Proofs.YtjlhicpkceplhaaDoorW.PrintMore

theorem zero_j0 (a : ByteArray) (x : Bool) (ha : a.size ≤ 140737488351232) (hx : x = false → a.size % 2 = 0) (k : Nat) (hk : a.size + 24 < k) :
    intrusionlaw02_ChecksumZero.j0 k a x = some true := by
  obtain ⟨k, rfl⟩ : ∃ n, k = n + 1 := ⟨k - 1, by omega⟩
  rw [intrusionlaw02_ChecksumZero.j0]
  have hr := sumOf_range a
  have hp := putOf_len (sumOf a) 2
  have s1 := size_append a (putOf (sumOf a) 2)
  have la := bytesOf_length a
  rw [awake_is _ (by omega), sum_is _ (by omega) _ (by omega)]
  simp only [Option.bind_some]
  rw [put_is _ _ _ (by omega)]
  have q1 : a.size + (putOf (sumOf a) 2).size ≤ 9223372036854775807 := by omega
  simp only [Option.bind_some, q1, if_true]
  rw [sum_is _ (by omega) _ (by omega)]
  simp only [Option.bind_some]
  cases x with
  | true => simp
  | false =>
    have e : sumOf (a ++ putOf (sumOf a) 2) = 0 := by
      have ht := tot_nonneg _ (bytesOf_range a)
      have hb := putOf_size (sumOf a) 2 (by decide) (by decide) (by omega) (by simp; omega)
      have he : tot (beN 2 (sumOf a)) = sumOf a := by
        simp only [beN, tot, Int.pow_zero, Int.pow_succ]; omega
      have := hx rfl
      unfold sumOf at *
      rw [bytesOf_append, tot_append _ _ (by omega), hb]
      rw [show (2 : Int).toNat = 2 from rfl, he]
      unfold canon
      split <;> split <;> omega
    simp [e]

theorem ChecksumZero : intrusionlaw02_ChecksumZero.Pure := by
  intro a ha
  refine ⟨a.size + 30, ?_⟩
  unfold intrusionlaw02_ChecksumZero.f intrusionlaw02_long.f
  simp only [Option.bind_some]
  split
  · exact zero_j0 a _ ha (by simp) _ (by omega)
  · refine zero_j0 a _ ha (fun h => ?_) _ (by omega)
    have : ¬ ((a.size : Int) % 2 = 1) := by simpa using h
    omega

end Go.Proofs.YtjlhicpkceplhaaDoor.Pure
