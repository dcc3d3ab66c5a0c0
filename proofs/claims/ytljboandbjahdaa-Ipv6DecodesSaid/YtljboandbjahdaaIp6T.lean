/- Decode of layer 12 in closed form; for strings of at most 2^62 bytes. -/
import Derived.Test.YtljboandbjahdaaIp6W
import Derived.Test.YtljboandbjahdaaReader
import Derived.Test.YtljboandbjahdaaX6
set_option linter.unusedVariables false
set_option linter.unusedSimpArgs false
namespace Go.Proofs.Ytljboandbjahdaa.Pure
open Go.RowKit Go.Proofs.Ytljboandbjahdaa.X Go.Proofs.YtljboandbjahdaaW.PrintWords Go.Proofs.YtljboandbjahdaaW.PrintLast Go.Proofs.YtljboandbjahdaaW.PrintMore

/-- What Decode answers: m bounds the number of headers that are looked at. -/
def decOf (m : Nat) (L : List Int) : PR :=
  if L.length < 40 then badP 1
  else if valBE (L.take 4) / 268435456 ≠ 6 then badP 2
  else if (L.length : Int) - 40 < valBE ((L.drop 4).take 2) then badP 1
  else packP (valBE (L.take 4) / 1048576 % 256) (valBE (L.take 4) % 1048576) (L.getD 7 0) true (valBE ((L.drop 8).take 8)) (valBE ((L.drop 16).take 8)) true (valBE ((L.drop 24).take 8)) (valBE ((L.drop 32).take 8))
    (walkOf m true (L.getD 6 0) [] false 0 0 false ((L.drop 40).take (valBE ((L.drop 4).take 2)).toNat))
theorem take1_val (L : List Int) (i : Nat) (h : i < L.length) : valBE ((L.drop i).take 1) = L.getD i 0 := by
  have e : (L.drop i).take 1 = [L[i]] := by rw [List.drop_eq_getElem_cons h]; rfl
  rw [e, List.getD_eq_getElem?_getD, List.getElem?_eq_getElem h]
  simp [valBE]
theorem rint_is (s : ByteArray) (i z : Nat) (k : Nat) (hs : s.size ≤ 4611686018427387904) (hi : i + z ≤ s.size) (h1 : 1 ≤ z) (h7 : z ≤ 7) (hk : 8 ≤ k) :
    field_Reader_Int.f k s (i : Int) 0 (z : Int) = some (valBE (((bytesOf s).drop i).take z), s, ((i + z : Nat) : Int), 0) := by
  rw [int_is s i z 0 k hs (by omega) h1 h7 hk, if_pos rfl, if_neg (by omega), bytesOf_extract, show i + z - i = z by omega]
theorem rtake_is (s : ByteArray) (i z : Nat) (hs : s.size ≤ 4611686018427387904) (hi : i + z ≤ s.size) :
    field_Reader_Take.f s (i : Int) 0 (z : Int) = some (s.extract i (i + z), s, ((i + z : Nat) : Int), 0) := by
  unfold field_Reader_Take.f
  rw [decide_eq_true (show (z : Int) ≥ 0 by omega), next_is s i 0 _ hs (by omega) (by omega) (by omega), if_pos rfl, if_neg (by omega)]
  simp only [bs, Int.toNat_natCast]
  rw [show (i : Int) + (z : Int) = ((i + z : Nat) : Int) by omega]
theorem rleft_is (s : ByteArray) (i : Nat) (hs : s.size ≤ 4611686018427387904) (hi : i ≤ s.size) : field_Reader_Left.f s (i : Int) 0 = some ((s.size : Int) - i, s, (i : Int), 0) := by
  unfold field_Reader_Left.f
  rw [w64 (n := (s.size : Int) - i) (by omega) (by omega)]
theorem drop_take_range (s : ByteArray) (i z : Nat) : ∀ x ∈ ((bytesOf s).drop i).take z, 0 ≤ x ∧ x < 256 := fun x hx => bytesOf_range s x (List.mem_of_mem_drop (List.mem_of_mem_take hx))
theorem aF16 (s : ByteArray) (i : Nat) (hi : i + 16 ≤ s.size) (k : Nat) (hk : 10 ≤ k) : address_FromBytes.f k (s.extract i (i + 16)) = some (true, valBE (((bytesOf s).drop i).take 8), valBE (((bytesOf s).drop (i + 8)).take 8), 0) := by
  rw [aFrom16 _ (by rw [ByteArray.size_extract]; omega) k hk, bytesOf_extract, show i + 16 - i = 16 by omega, List.take_take, List.drop_take, List.drop_drop]
  rfl
theorem decode_is (s : ByteArray) (hs : s.size ≤ 4611686018427387904) (m k : Nat) (hm : 65536 < 8 * m) (hk : 5 * m + 30 ≤ k) : ipv6_Decode.f k s = some (decOf m (bytesOf s)) := by
  have hl := bytesOf_length s
  unfold ipv6_Decode.f decOf
  by_cases h40 : (s.size : Int) < 40
  · rw [if_pos h40, if_pos (by omega)]
    rfl
  · rw [if_neg h40, if_neg (by omega)]
    have r0 := rint_is s 0 4 k hs (by omega) (by omega) (by omega) (by omega)
    have r4 := rint_is s 4 2 k hs (by omega) (by omega) (by omega) (by omega)
    have r6 := rint_is s 6 1 k hs (by omega) (by omega) (by omega) (by omega)
    have r7 := rint_is s 7 1 k hs (by omega) (by omega) (by omega) (by omega)
    have t8 := rtake_is s 8 16 hs (by omega)
    have t24 := rtake_is s 24 16 hs (by omega)
    have lf := rleft_is s 40 hs (by omega)
    have a8 := aF16 s 8 (by omega) k (by omega)
    have a24 := aF16 s 24 (by omega) k (by omega)
    have v4 := valBE_range _ (drop_take_range s 0 4)
    have v2 := valBE_range _ (drop_take_range s 4 2)
    rw [show (((bytesOf s).drop 0).take 4).length = 4 by simp; omega] at v4
    rw [show (((bytesOf s).drop 4).take 2).length = 2 by simp; omega] at v2
    rw [take1_val _ _ (by omega)] at r6 r7
    rw [List.drop_zero] at r0 v4
    simp only [show ((0 : Nat) : Int) = 0 from rfl, show ((1 : Nat) : Int) = 1 from rfl, show ((2 : Nat) : Int) = 2 from rfl, show ((4 : Nat) : Int) = 4 from rfl, show ((16 : Nat) : Int) = 16 from rfl, Nat.reduceAdd, show ((6 : Nat) : Int) = 6 from rfl, show ((7 : Nat) : Int) = 7 from rfl, show ((8 : Nat) : Int) = 8 from rfl, show ((24 : Nat) : Int) = 24 from rfl, show ((40 : Nat) : Int) = 40 from rfl] at r0 r4 r6 r7 t8 t24 lf a8 a24
    simp only [field_NewReader.f, bs, r0, r4]
    by_cases h6 : valBE ((bytesOf s).take 4) / 268435456 = 6
    · rw [if_pos h6, if_neg (fun z : valBE ((bytesOf s).take 4) / 268435456 ≠ 6 => z h6)]
      simp only [bs, r6, r7, t8, t24, a8, a24, lf]
      by_cases hn : (s.size : Int) - 40 < valBE (((bytesOf s).drop 4).take 2)
      · rw [if_pos (show valBE (((bytesOf s).drop 4).take 2) > (s.size : Int) - 40 from hn), if_pos (by omega)]
        rfl
      · rw [if_neg (show ¬ valBE (((bytesOf s).drop 4).take 2) > (s.size : Int) - 40 from hn), if_neg (by omega)]
        obtain ⟨n, hn2⟩ : ∃ n : Nat, valBE (((bytesOf s).drop 4).take 2) = n := ⟨_, (Int.toNat_of_nonneg v2.1).symm⟩
        rw [hn2] at hn v2 ⊢
        have t40 := rtake_is s 40 n hs (by omega)
        rw [show ((40 : Nat) : Int) = 40 from rfl] at t40
        rw [t40]
        simp only [bs]
        rw [and255 _ (by omega) (by omega), and20 _ v4.1 (by omega)]
        obtain ⟨q, rfl⟩ : ∃ q, k = q + 5 * m + 10 := ⟨k - 5 * m - 10, by omega⟩
        unfold ipv6_headers.f
        rw [heads_walk _ _ _ _ _ _ _ _ _ m q true _ [] false 0 0 false (s.extract 40 (40 + n)) (by rw [ByteArray.size_extract]; omega) (by rw [ByteArray.size_extract]; omega) (by simp), bytesOf_extract, show 40 + n - 40 = n by omega, Int.toNat_natCast]
        simp only [bs]
    · rw [if_neg h6, if_pos (show valBE ((bytesOf s).take 4) / 268435456 ≠ 6 from h6)]
      rfl
end Go.Proofs.Ytljboandbjahdaa.Pure
