/- What the document's Put of layer 1 computes, in closed form. -/
import Derived.Test.YtdjbmfjeplheiaaDoorField
import Derived.Test.YtdjbmfjeplheiaaDoorX15
namespace Go.Proofs.YtdjbmfjeplheiaaDoor.Pure
open Go.RowKit Go.Proofs.YtdjbmfjeplheiaaDoor.X Go.Proofs.YtdjbmfjeplheiaaDoorW.PrintWords Go.Proofs.YtdjbmfjeplheiaaDoorW.PrintLast Go.Proofs.YtdjbmfjeplheiaaDoorW.PrintMore

theorem power_is (z : Nat) (h : z ≤ 7) (k : Nat) (hk : 10 ≤ k) : intrusionref01_Power.f k z = some (256 ^ z) := by
  refine at_rounds (intrusionref01_Power.mono _) hk ?_
  obtain rfl | rfl | rfl | rfl | rfl | rfl | rfl | rfl : z = 0 ∨ z = 1 ∨ z = 2 ∨ z = 3 ∨ z = 4 ∨ z = 5 ∨ z = 6 ∨ z = 7 := by omega
  all_goals decide +kernel
theorem beN_snoc : ∀ (i : Nat) (n : Int), beN (i + 1) n = beN i (n / 256) ++ [n % 256]
  | 0, n => by simp [beN]
  | i + 1, n => by
    rw [beN, beN_snoc i n, beN, Int.pow_succ, Int.mul_comm, ← Int.ediv_ediv_of_nonneg (by omega)]
    rfl
theorem rput_is : ∀ (z : Nat) (n : Int) (k : Nat), -9223372036854775808 ≤ n → n < 9223372036854775808 → 1 ≤ z → z ≤ 7 → 2 * z + 20 ≤ k → intrusionref01_Put.f k n z = some (putOf n z)
  | 0, n, k, _, _, h, _, _ => by omega
  | z + 1, n, k, hn, hn', h1, h7, hk => by
    obtain ⟨k, rfl⟩ : ∃ m, k = m + 2 := ⟨k - 2, by omega⟩
    have hp : (0 : Int) < 256 ^ (z + 1) := Int.pow_pos (by decide)
    unfold intrusionref01_Put.f
    rw [if_neg (by omega), if_neg (by omega), power_is (z + 1) h7 _ (by omega)]
    unfold putOf
    simp only [Option.bind_some, Int.toNat_natCast]
    by_cases h0 : n < 0
    · rw [if_pos h0, if_neg (by omega)]
      unfold intrusionref01_Put.j0
      simp
    · rw [if_neg h0]
      by_cases hb : n < 256 ^ (z + 1)
      · rw [if_pos ⟨by omega, by omega, by omega, hb⟩, decide_eq_false (by omega)]
        unfold intrusionref01_Put.j0
        simp only [Bool.false_eq_true, if_false]
        by_cases hz : z = 0
        · subst hz
          simp [beN]
        · rw [if_neg (by omega), w64 (n := ((z + 1 : Nat) : Int) - 1) (by omega) (by omega), Int.tdiv_eq_ediv_of_nonneg (by omega), w64 (n := n / 256) (by omega) (by omega), Int.tmod_eq_emod_of_nonneg (by omega),
            show ((z + 1 : Nat) : Int) - 1 = (z : Int) by omega, rput_is z (n / 256) k (by omega) (by omega) (by omega) (by omega) (by omega)]
          have hb2 : n / 256 < 256 ^ z := by
            rw [Int.pow_succ] at hb
            exact Int.ediv_lt_of_lt_mul (by omega) hb
          have hs : (putOf (n / 256) z).size ≤ 7 := putOf_len _ _
          simp only [Option.bind_some]
          rw [if_pos (by rw [strOfNums_size]; simp; omega), show n % 256 % 256 = n % 256 by omega, beN_snoc, strOfNums_append]
          unfold putOf
          rw [if_pos ⟨by omega, by omega, by omega, by simpa using hb2⟩]
          simp
      · rw [if_neg (fun h => hb h.2.2.2), decide_eq_true (by omega)]
        unfold intrusionref01_Put.j0
        simp
theorem rput_all (n size : Int) (k : Nat) (hn : -9223372036854775808 ≤ n) (hn' : n < 9223372036854775808) (hk : 40 ≤ k) : intrusionref01_Put.f k n size = some (putOf n size) := by
  by_cases h1 : 1 ≤ size
  · by_cases h7 : size ≤ 7
    · obtain ⟨z, rfl⟩ := Int.eq_ofNat_of_zero_le (show 0 ≤ size by omega)
      exact rput_is z n k hn hn' (by omega) (by omega) (by omega)
    · obtain ⟨k, rfl⟩ : ∃ m, k = m + 2 := ⟨k - 2, by omega⟩
      unfold intrusionref01_Put.f intrusionref01_Put.j0 putOf
      have hx : ¬ (1 ≤ size ∧ size ≤ 7 ∧ 0 ≤ n ∧ n < 256 ^ size.toNat) := fun h => h7 h.2.1
      rw [if_neg (by omega), if_pos (by omega), if_neg hx]
      rfl
  · obtain ⟨k, rfl⟩ : ∃ m, k = m + 2 := ⟨k - 2, by omega⟩
    unfold intrusionref01_Put.f intrusionref01_Put.j0 putOf
    have hx : ¬ (1 ≤ size ∧ size ≤ 7 ∧ 0 ≤ n ∧ n < 256 ^ size.toNat) := fun h => h1 h.1
    rw [if_pos (by omega), if_neg hx]
    rfl
end Go.Proofs.YtdjbmfjeplheiaaDoor.Pure
