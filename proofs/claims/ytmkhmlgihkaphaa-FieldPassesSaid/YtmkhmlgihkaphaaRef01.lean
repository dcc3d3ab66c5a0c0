/- What the document's Put, Reverse, Value and Get of layer 1 compute, in closed form, and that the awake examples hold. -/
import Derived.Test.YtmkhmlgihkaphaaField
import Derived.Test.YtmkhmlgihkaphaaX5
namespace Go.Proofs.Ytmkhmlgihkaphaa.Pure
open Go.RowKit Go.Proofs.Ytmkhmlgihkaphaa.X Go.Proofs.YtmkhmlgihkaphaaW.PrintWords Go.Proofs.YtmkhmlgihkaphaaW.PrintLast Go.Proofs.YtmkhmlgihkaphaaW.PrintMore

theorem awake30 : intrusionlaw01_awake.f 30 = some true := by decide +kernel
theorem awake_is (k : Nat) (hk : 30 ≤ k) : intrusionlaw01_awake.f k = some true := at_rounds intrusionlaw01_awake.mono hk awake30
theorem power_is (z : Nat) (h : z ≤ 7) (k : Nat) (hk : 10 ≤ k) : intrusionref01_Power.f k z = some (256 ^ z) := by
  refine at_rounds (intrusionref01_Power.mono _) hk ?_
  obtain rfl | rfl | rfl | rfl | rfl | rfl | rfl | rfl : z = 0 ∨ z = 1 ∨ z = 2 ∨ z = 3 ∨ z = 4 ∨ z = 5 ∨ z = 6 ∨ z = 7 := by omega
  all_goals decide +kernel
theorem beN_snoc : ∀ (i : Nat) (n : Int), beN (i + 1) n = beN i (n / 256) ++ [n % 256]
  | 0, n => by simp [beN]
  | i + 1, n => by
    rw [beN, beN_snoc i n, beN, Int.pow_succ, Int.mul_comm, ← Int.ediv_ediv_of_nonneg (by omega)]
    rfl
theorem rput_is : ∀ (z : Nat) (n : Int) (k : Nat), -9223372036854775808 ≤ n → n < 9223372036854775808 → 1 ≤ z → z ≤ 7 → 2 * z + 20 ≤ k → intrusionref01_Put.f k n z = some (putOf n z)
  | 0, n, k, _, _, h, _, _ => by omega
  | z + 1, n, k, hn, hn', h1, h7, hk => by
    obtain ⟨k, rfl⟩ : ∃ m, k = m + 2 := ⟨k - 2, by omega⟩
    have hp : (0 : Int) < 256 ^ (z + 1) := Int.pow_pos (by decide)
    unfold intrusionref01_Put.f
    rw [if_neg (by omega), if_neg (by omega), power_is (z + 1) h7 _ (by omega)]
    unfold putOf
    simp only [Option.bind_some, Int.toNat_natCast]
    by_cases h0 : n < 0
    · rw [if_pos h0, if_neg (by omega)]
      unfold intrusionref01_Put.j0
      simp
    · rw [if_neg h0]
      by_cases hb : n < 256 ^ (z + 1)
      · rw [if_pos ⟨by omega, by omega, by omega, hb⟩, decide_eq_false (by omega)]
        unfold intrusionref01_Put.j0
        simp only [Bool.false_eq_true, if_false]
        by_cases hz : z = 0
        · subst hz
          simp [beN]
        · rw [if_neg (by omega), w64 (n := ((z + 1 : Nat) : Int) - 1) (by omega) (by omega), Int.tdiv_eq_ediv_of_nonneg (by omega), w64 (n := n / 256) (by omega) (by omega), Int.tmod_eq_emod_of_nonneg (by omega),
            show ((z + 1 : Nat) : Int) - 1 = (z : Int) by omega, rput_is z (n / 256) k (by omega) (by omega) (by omega) (by omega) (by omega)]
          have hb2 : n / 256 < 256 ^ z := by
            rw [Int.pow_succ] at hb
            exact Int.ediv_lt_of_lt_mul (by omega) hb
          have hs : (putOf (n / 256) z).size ≤ 7 := putOf_len _ _
          simp only [Option.bind_some]
          rw [if_pos (by rw [strOfNums_size]; simp; omega), show n % 256 % 256 = n % 256 by omega, beN_snoc, strOfNums_append]
          unfold putOf
          rw [if_pos ⟨by omega, by omega, by omega, by simpa using hb2⟩]
          simp
      · rw [if_neg (fun h => hb h.2.2.2), decide_eq_true (by omega)]
        unfold intrusionref01_Put.j0
        simp
theorem rput_all (n size : Int) (k : Nat) (hn : -9223372036854775808 ≤ n) (hn' : n < 9223372036854775808) (hk : 40 ≤ k) : intrusionref01_Put.f k n size = some (putOf n size) := by
  by_cases h1 : 1 ≤ size
  · by_cases h7 : size ≤ 7
    · obtain ⟨z, rfl⟩ := Int.eq_ofNat_of_zero_le (show 0 ≤ size by omega)
      exact rput_is z n k hn hn' (by omega) (by omega) (by omega)
    · obtain ⟨k, rfl⟩ : ∃ m, k = m + 2 := ⟨k - 2, by omega⟩
      unfold intrusionref01_Put.f intrusionref01_Put.j0 putOf
      have hx : ¬ (1 ≤ size ∧ size ≤ 7 ∧ 0 ≤ n ∧ n < 256 ^ size.toNat) := fun h => h7 h.2.1
      rw [if_neg (by omega), if_pos (by omega), if_neg hx]
      rfl
  · obtain ⟨k, rfl⟩ : ∃ m, k = m + 2 := ⟨k - 2, by omega⟩
    unfold intrusionref01_Put.f intrusionref01_Put.j0 putOf
    have hx : ¬ (1 ≤ size ∧ size ≤ 7 ∧ 0 ≤ n ∧ n < 256 ^ size.toNat) := fun h => h1 h.1
    rw [if_pos (by omega), if_neg hx]
    rfl
theorem getD_bt (s : ByteArray) (i : Nat) (h : i < s.size) : bt s (i : Int) = (bytesOf s)[i]'(by rw [bytesOf_length]; exact h) := by
  rw [bt_eq, List.getD_eq_getElem?_getD, List.getElem?_eq_getElem (by rw [bytesOf_length]; exact h)]
  rfl
theorem reverse_loop (s : ByteArray) (hs : s.size ≤ 140737488351232) : ∀ (i k : Nat), i ≤ s.size →
    intrusionref01_Reverse.l0 (k + i + 1) s ((bytesOf s).drop i).reverse ((i : Int) - 1) = some (strOfNums (bytesOf s).reverse)
  | 0, k, h => by
    unfold intrusionref01_Reverse.l0
    rw [if_neg (by omega)]
    rfl
  | i + 1, k, h => by
    have hlen := bytesOf_length s
    rw [show k + (i + 1) + 1 = (k + i + 1) + 1 by omega]
    unfold intrusionref01_Reverse.l0
    rw [if_pos (by omega), if_pos (by omega), if_pos (by omega), if_pos (by simp; omega), w64 (by omega) (by omega), show ((i + 1 : Nat) : Int) - 1 = (i : Int) by omega]
    have e : ((bytesOf s).drop (i + 1)).reverse ++ [bt s (i : Int)] = ((bytesOf s).drop i).reverse := by
      rw [List.drop_eq_getElem_cons (show i < (bytesOf s).length by omega), List.reverse_cons, getD_bt s i (by omega)]
    rw [e]
    exact reverse_loop s hs i k (by omega)
theorem reverse_is (s : ByteArray) (hs : s.size ≤ 140737488351232) (k : Nat) (hk : s.size + 1 ≤ k) : intrusionref01_Reverse.f k s = some (strOfNums (bytesOf s).reverse) := by
  have h := reverse_loop s hs s.size (k - s.size - 1) (by omega)
  have hlen := bytesOf_length s
  rw [show k - s.size - 1 + s.size + 1 = k by omega, List.drop_of_length_le (by omega)] at h
  unfold intrusionref01_Reverse.f
  rw [w64 (by omega) (by omega)]
  exact h
theorem value_loop (s : ByteArray) (h7 : s.size ≤ 7) : ∀ (m i k : Nat), i + m = s.size →
    intrusionref01_Value.l0 (k + m + 1) s (valBE ((bytesOf s).take i)) i = some (valBE (bytesOf s))
  | 0, i, k, h => by
    have hlen := bytesOf_length s
    unfold intrusionref01_Value.l0
    rw [if_neg (by omega), List.take_of_length_le (by omega)]
  | m + 1, i, k, h => by
    rw [show k + (m + 1) + 1 = (k + m + 1) + 1 by omega]
    have hlen := bytesOf_length s
    have hlt : i < (bytesOf s).length := by omega
    have hl := bytesOf_range s
    generalize hL : bytesOf s = l at *
    have ht : l.take (i + 1) = l.take i ++ [l[i]] := by rw [List.take_add_one]; simp [hlt]
    have e : valBE (l.take (i + 1)) = valBE (l.take i) * 256 + l[i] := by
      rw [ht]; unfold valBE; rw [List.foldl_append]; rfl
    have hr := valBE_range (l.take i) (fun x hx => hl x (List.mem_of_mem_take hx))
    have hc := hl l[i] (List.getElem_mem hlt)
    have hpow : (256 : Int) ^ (l.take i).length ≤ 281474976710656 := by
      have h6 : (l.take i).length ≤ 6 := by simp; omega
      have hn : 256 ^ (l.take i).length ≤ 281474976710656 := Nat.le_trans (Nat.pow_le_pow_right (by decide) h6) (by decide)
      have hc : ((256 ^ (l.take i).length : Nat) : Int) = (256 : Int) ^ (l.take i).length := Int.natCast_pow 256 _
      omega
    have hbt : bt s (i : Int) = l[i] := by rw [getD_bt s i (by omega)]; simp [hL]
    unfold intrusionref01_Value.l0
    rw [if_pos (by omega), if_pos (by omega), hbt, w64 (n := l[i]) (by omega) (by omega), w64 (n := valBE (l.take i) * 256) (by omega) (by omega), w64 (n := valBE (l.take i) * 256 + l[i]) (by omega) (by omega), w64 (n := (i : Int) + 1) (by omega) (by omega), ← e,
      show (i : Int) + 1 = ((i + 1 : Nat) : Int) by omega]
    have := value_loop s h7 m (i + 1) k (by omega)
    rw [hL] at this
    exact this
theorem value_is (s : ByteArray) (h7 : s.size ≤ 7) (k : Nat) (hk : 8 ≤ k) : intrusionref01_Value.f k s = some (valBE (bytesOf s)) := by
  have h := value_loop s h7 s.size 0 (k - s.size - 1) (by omega)
  rw [show k - s.size - 1 + s.size + 1 = k by omega] at h
  unfold intrusionref01_Value.f
  simpa [valBE] using h
end Go.Proofs.Ytmkhmlgihkaphaa.Pure
