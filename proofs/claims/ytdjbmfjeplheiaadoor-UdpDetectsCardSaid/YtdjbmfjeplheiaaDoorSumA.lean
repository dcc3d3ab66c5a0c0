/- What the one's complement sum of the program computes, in closed form: 65535 less the residue of the words' total; for strings of at most 2^62 bytes. -/
import Derived.Test.YtdjbmfjeplheiaaDoorBase
import Derived.Test.YtdjbmfjeplheiaaDoorX3
namespace Go.Proofs.YtdjbmfjeplheiaaDoor.Pure
open Go.RowKit Go.Proofs.YtdjbmfjeplheiaaDoor.X Go.Proofs.YtdjbmfjeplheiaaDoorW.PrintWords Go.Proofs.YtdjbmfjeplheiaaDoorW.PrintLast Go.Proofs.YtdjbmfjeplheiaaDoorW.PrintMore

/-- The total of the 16-bit words of a list of bytes. -/
def tot : List Int → Int
  | [] => 0
  | [a] => a * 256
  | a :: b :: r => a * 256 + b + tot r
/-- The one's complement residue, 1 to 65535, or 0 for 0. -/
def canon (t : Int) : Int := if t = 0 then 0 else (t - 1) % 65535 + 1
theorem tot_nonneg : ∀ l : List Int, (∀ x ∈ l, 0 ≤ x ∧ x < 256) → 0 ≤ tot l
  | [], _ => by simp [tot]
  | [a], h => by have := h a (by simp); simp only [tot]; omega
  | a :: b :: r, h => by
    have h1 := h a (by simp)
    have h2 := h b (by simp)
    have h3 := tot_nonneg r (fun x hx => h x (by simp [hx]))
    simp only [tot]; omega
theorem tot_append : ∀ a b : List Int, a.length % 2 = 0 → tot (a ++ b) = tot a + tot b
  | [], b, _ => by simp [tot]
  | [x], b, h => by simp at h
  | x :: y :: r, b, h => by
    have := tot_append r b (by simp at h; omega)
    simp only [tot, List.cons_append, this]; omega
theorem canon_range {t : Int} (_h : 0 ≤ t) : 0 ≤ canon t ∧ canon t ≤ 65535 := by
  unfold canon; split <;> omega
theorem canon_step {t w : Int} (ht : 0 ≤ t) (h0 : 0 ≤ w) (h1 : w ≤ 65535) : (if canon t + w > 65535 then canon t + w - 65535 else canon t + w) = canon (t + w) := by
  unfold canon; split <;> split <;> split <;> omega
theorem fold_some (x : Int) (h0 : 0 ≤ x) (h1 : x ≤ 131070) : checksum_fold.f x = some (if x > 65535 then x - 65535 else x) := by
  unfold checksum_fold.f
  split
  · rw [w64 (by omega) (by omega)]
  · rfl
theorem drop_two (l : List Int) (i : Nat) (h : i + 1 < l.length) : l.drop i = l.getD i 0 :: l.getD (i + 1) 0 :: l.drop (i + 2) := by
  rw [List.drop_eq_getElem_cons (by omega), List.drop_eq_getElem_cons (by omega)]
  simp [List.getD_eq_getElem?_getD, List.getElem?_eq_getElem (show i < l.length by omega), List.getElem?_eq_getElem h]
theorem drop_one (l : List Int) (i : Nat) (h : i + 1 = l.length) : l.drop i = [l.getD i 0] := by
  rw [List.drop_eq_getElem_cons (by omega), List.drop_of_length_le (by omega)]
  simp [List.getD_eq_getElem?_getD, List.getElem?_eq_getElem (show i < l.length by omega)]
theorem sum_loop (s : ByteArray) (hs : s.size ≤ 4611686018427387904) : ∀ (k i : Nat) (t : Int), 0 ≤ t → s.size + 2 < 2 * k + i → i ≤ s.size + 1 →
    checksum_Sum.l0 k s (canon t) i = some (65535 - canon (t + tot ((bytesOf s).drop i)))
  | 0, i, t, _, h, h2 => by omega
  | k + 1, i, t, ht, h, h2 => by
    have hlen := bytesOf_length s
    have hr := canon_range ht
    unfold checksum_Sum.l0
    by_cases h1 : (i : Int) < (s.size : Int)
    · rw [if_pos h1, if_pos (by omega), w64 (n := (i : Int) + 1) (by omega) (by omega)]
      have hb := bt_range s i
      have hb2 := bt_range s ((i : Int) + 1)
      have hm : wrap64 (wrap64 (bt s i) * 256) = bt s i * 256 := by rw [w64 (n := bt s i) (by omega) (by omega), w64 (by omega) (by omega)]
      rw [hm, w64 (n := (i : Int) + 2) (by omega) (by omega), show ((i : Int) + 2) = ((i + 2 : Nat) : Int) by omega]
      by_cases h3 : (i : Int) + 1 < (s.size : Int)
      · rw [if_pos h3, if_pos (by omega), w64 (n := bt s ((i : Int) + 1)) (by omega) (by omega), or8 _ _ (by omega) (by omega) (by omega) (by omega) (by omega),
          w64 (by omega) (by omega), fold_some _ (by omega) (by omega), Option.bind_some, canon_step ht (by omega) (by omega),
          sum_loop s hs k (i + 2) _ (by omega) (by omega) (by omega), drop_two _ i (by omega), tot]
        rw [show ((i : Int) + 1) = ((i + 1 : Nat) : Int) by omega, bt_eq, bt_eq, Int.add_assoc]
      · rw [if_neg h3, w64 (by omega) (by omega), fold_some _ (by omega) (by omega), Option.bind_some, canon_step ht (by omega) (by omega),
          sum_loop s hs k (i + 2) _ (by omega) (by omega) (by omega), drop_one _ i (by omega), tot, List.drop_of_length_le (by omega), tot, bt_eq, Int.add_zero]
    · rw [if_neg h1, List.drop_of_length_le (by omega), tot, Int.add_zero, w64 (by omega) (by omega)]
/-- Sum in closed form. -/
def sumOf (s : ByteArray) : Int := 65535 - canon (tot (bytesOf s))
theorem sum_is (s : ByteArray) (hs : s.size ≤ 4611686018427387904) (k : Nat) (hk : s.size + 2 < k) : checksum_Sum.f k s = some (sumOf s) := by
  have := sum_loop s hs k 0 0 (by omega) (by omega) (by omega)
  unfold checksum_Sum.f sumOf
  simpa [canon] using this
theorem sumOf_range (s : ByteArray) : 0 ≤ sumOf s ∧ sumOf s ≤ 65535 := by
  have := canon_range (tot_nonneg _ (bytesOf_range s))
  unfold sumOf; omega
/-- Add in closed form. -/
def addOf (a b : Int) : Int := if a % 65536 + b % 65536 > 65535 then a % 65536 + b % 65536 - 65535 else a % 65536 + b % 65536
theorem addOf_range (a b : Int) : 0 ≤ addOf a b ∧ addOf a b ≤ 65535 := by unfold addOf; split <;> omega
end Go.Proofs.YtdjbmfjeplheiaaDoor.Pure
