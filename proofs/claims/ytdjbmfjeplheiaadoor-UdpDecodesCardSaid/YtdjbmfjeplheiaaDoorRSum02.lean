/- The document's Sum, Add and Update in closed form. -/
import Derived.Test.YtdjbmfjeplheiaaDoorSumA
import Derived.Test.YtdjbmfjeplheiaaDoorX9
namespace Go.Proofs.YtdjbmfjeplheiaaDoor.Pure
open Go.RowKit Go.Proofs.YtdjbmfjeplheiaaDoor.X Go.Proofs.YtdjbmfjeplheiaaDoorW.PrintWords Go.Proofs.YtdjbmfjeplheiaaDoorW.PrintLast Go.Proofs.YtdjbmfjeplheiaaDoorW.PrintMore

theorem radd_is (a b : Int) : intrusionref02_Add.f a b = some (addOf a b) := by
  unfold intrusionref02_Add.f addOf
  rw [and16, and16, w64 (n := a % 65536 + b % 65536) (by omega) (by omega)]
  split
  · rw [w64 (by omega) (by omega)]
  · rfl
theorem radd_step {t w : Int} (ht : 0 ≤ t) (h0 : 0 ≤ w) (h1 : w ≤ 65535) : intrusionref02_Add.f (canon t) w = some (canon (t + w)) := by
  have hr := canon_range ht
  rw [radd_is, ← canon_step ht h0 h1, addOf, show canon t % 65536 = canon t by omega, show w % 65536 = w by omega]
theorem rsum_loop (s : ByteArray) (hs : s.size ≤ 4611686018427387904) : ∀ (k i : Nat) (t : Int), 0 ≤ t → s.size + 2 < 2 * k + i → i ≤ s.size + 1 →
    intrusionref02_Sum.l0 k s (canon t) i = some (65535 - canon (t + tot ((bytesOf s).drop i)))
  | 0, i, t, _, h, h2 => by omega
  | k + 1, i, t, ht, h, h2 => by
    have hlen := bytesOf_length s
    have hr := canon_range ht
    unfold intrusionref02_Sum.l0
    by_cases h1 : (i : Int) < (s.size : Int)
    · rw [if_pos h1, if_pos (by omega), w64 (n := (i : Int) + 1) (by omega) (by omega)]
      have hb := bt_range s i
      have hb2 := bt_range s ((i : Int) + 1)
      have hm : wrap64 (wrap64 (bt s i) * 256) = bt s i * 256 := by rw [w64 (n := bt s i) (by omega) (by omega), w64 (by omega) (by omega)]
      rw [hm, w64 (n := (i : Int) + 2) (by omega) (by omega), show ((i : Int) + 2) = ((i + 2 : Nat) : Int) by omega]
      by_cases h3 : (i : Int) + 1 < (s.size : Int)
      · rw [if_pos h3, if_pos (by omega), w64 (n := bt s ((i : Int) + 1)) (by omega) (by omega),
          w64 (by omega) (by omega), radd_step ht (by omega) (by omega), Option.bind_some,
          rsum_loop s hs k (i + 2) _ (by omega) (by omega) (by omega), drop_two _ i (by omega), tot]
        rw [show ((i : Int) + 1) = ((i + 1 : Nat) : Int) by omega, bt_eq, bt_eq, Int.add_assoc]
      · rw [if_neg h3, radd_step ht (by omega) (by omega), Option.bind_some,
          rsum_loop s hs k (i + 2) _ (by omega) (by omega) (by omega), drop_one _ i (by omega), tot, List.drop_of_length_le (by omega), tot, bt_eq, Int.add_zero]
    · rw [if_neg h1, List.drop_of_length_le (by omega), tot, Int.add_zero, w64 (by omega) (by omega)]
theorem rsum_is (s : ByteArray) (hs : s.size ≤ 4611686018427387904) (k : Nat) (hk : s.size + 2 < k) : intrusionref02_Sum.f k s = some (sumOf s) := by
  have := rsum_loop s hs k 0 0 (by omega) (by omega) (by omega)
  unfold intrusionref02_Sum.f sumOf
  simpa [canon] using this
end Go.Proofs.YtdjbmfjeplheiaaDoor.Pure
