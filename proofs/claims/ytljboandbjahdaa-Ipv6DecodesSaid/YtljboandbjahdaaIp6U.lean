/- Decode of layer 12 in closed form, the document's; for strings of at most 2^62 bytes. -/
import Derived.Test.YtljboandbjahdaaIp6T
import Derived.Test.YtljboandbjahdaaIp6V
import Derived.Test.YtljboandbjahdaaIp6Z
import Derived.Test.YtljboandbjahdaaX17
set_option linter.unusedVariables false
set_option linter.unusedSimpArgs false
namespace Go.Proofs.Ytljboandbjahdaa.Pure
open Go.RowKit Go.Proofs.Ytljboandbjahdaa.X Go.Proofs.YtljboandbjahdaaW.PrintWords Go.Proofs.YtljboandbjahdaaW.PrintLast Go.Proofs.YtljboandbjahdaaW.PrintMore

theorem rF16 (s : ByteArray) (i : Nat) (hi : i + 16 ≤ s.size) (k : Nat) (hk : 20 ≤ k) : intrusionref06_FromBytes.f k (s.extract i (i + 16)) = some (true, valBE (((bytesOf s).drop i).take 8), valBE (((bytesOf s).drop (i + 8)).take 8), 0) := by
  rw [rFrom16 _ (by rw [ByteArray.size_extract]; omega) k hk, bytesOf_extract, show i + 16 - i = 16 by omega, List.take_take, List.drop_take, List.drop_drop]
  rfl
theorem rdecode_is (s : ByteArray) (hs : s.size ≤ 4611686018427387904) (m k : Nat) (hm : 65536 < 8 * m) (hk : 5 * m + 30 ≤ k) : intrusionref12_Decode.f k s = some (decOf m (bytesOf s)) := by
  have hl := bytesOf_length s
  unfold intrusionref12_Decode.f decOf
  by_cases h40 : (s.size : Int) < 40
  · rw [if_pos h40, if_pos (by omega)]
    rfl
  · rw [if_neg h40, if_pos (show 0 < (s.size : Int) by omega), if_neg (show ¬ (bytesOf s).length < 40 by omega)]
    have b0 := bt_eq s 0
    have b6 := bt_eq s 6
    have b7 := bt_eq s 7
    have r0 := getD_range (bytesOf s) (bytesOf_range s) 0
    have r6 := getD_range (bytesOf s) (bytesOf_range s) 6
    have r7 := getD_range (bytesOf s) (bytesOf_range s) 7
    simp only [show ((6 : Nat) : Int) = 6 from rfl, show ((7 : Nat) : Int) = 7 from rfl, show ((8 : Nat) : Int) = 8 from rfl, show ((24 : Nat) : Int) = 24 from rfl, show ((40 : Nat) : Int) = 40 from rfl, show ((0 : Nat) : Int) = 0 from rfl] at b0 b6 b7
    have n42 := rnum_is (s.extract 4 6) (by rw [ByteArray.size_extract]; omega) k (by omega)
    have n02 := rnum_is (s.extract 0 2) (by rw [ByteArray.size_extract]; omega) k (by omega)
    have n04 := rnum_is (s.extract 0 4) (by rw [ByteArray.size_extract]; omega) k (by omega)
    rw [bytesOf_extract] at n42 n02 n04
    simp only [List.drop_zero, Nat.reduceSub, Nat.sub_zero] at n42 n02 n04
    have a8 := rF16 s 8 (by omega) k (by omega)
    have a24 := rF16 s 24 (by omega) k (by omega)
    simp only [Nat.reduceAdd] at a8 a24
    have v4 := valBE_range _ (drop_take_range s 0 4)
    have v2 := valBE_range _ (drop_take_range s 4 2)
    rw [show (((bytesOf s).drop 0).take 4).length = 4 by simp; omega] at v4
    rw [show (((bytesOf s).drop 4).take 2).length = 2 by simp; omega] at v2
    rw [List.drop_zero] at v4
    obtain ⟨x0, x1, x2, x3, r, hL⟩ : ∃ x0 x1 x2 x3 r, bytesOf s = x0 :: x1 :: x2 :: x3 :: r := by
      match h : bytesOf s, hl with
      | x0 :: x1 :: x2 :: x3 :: r, _ => exact ⟨_, _, _, _, _, rfl⟩
      | [], z => simp at z; omega
      | [_], z => simp at z; omega
      | [_, _], z => simp at z; omega
      | [_, _, _], z => simp at z; omega
    have R := bytesOf_range s
    rw [hL] at R
    have R1 := R x1 (by simp)
    have R2 := R x2 (by simp)
    have R3 := R x3 (by simp)
    have e4 : valBE ((bytesOf s).take 4) = ((x0 * 256 + x1) * 256 + x2) * 256 + x3 := by rw [hL]; simp [valBE]
    have e2 : valBE ((bytesOf s).take 2) = x0 * 256 + x1 := by rw [hL]; simp [valBE]
    have e0 : (bytesOf s).getD 0 0 = x0 := by rw [hL]; rfl
    rw [e0] at b0 r0
    have h6i : bt s 0 / 16 = 6 ↔ valBE ((bytesOf s).take 4) / 268435456 = 6 := by rw [b0, e4]; omega
    by_cases h6 : valBE ((bytesOf s).take 4) / 268435456 = 6
    · rw [if_pos (h6i.mpr h6), if_neg (fun z : valBE ((bytesOf s).take 4) / 268435456 ≠ 6 => z h6), if_pos (by omega), if_pos (by omega), n42]
      simp only [bs]
      rw [w64 (n := (s.size : Int) - 40) (by omega) (by omega)]
      by_cases hn : (s.size : Int) - 40 < valBE (((bytesOf s).drop 4).take 2)
      · rw [if_pos hn, if_pos (by omega)]
        rfl
      · rw [if_neg hn, if_neg (show ¬ ((bytesOf s).length : Int) - 40 < valBE (((bytesOf s).drop 4).take 2) by omega), if_pos (by omega), if_pos (by omega), n02]
        simp only [bs]
        rw [if_pos (by omega), if_pos (by omega), n04]
        simp only [bs]
        rw [if_pos (by omega), if_pos (by omega), if_pos (by omega), if_pos (by omega), a8]
        simp only [bs]
        rw [if_pos (by omega), if_pos (by omega), a24]
        simp only [bs]
        obtain ⟨n, hn2⟩ : ∃ n : Nat, valBE (((bytesOf s).drop 4).take 2) = n := ⟨_, (Int.toNat_of_nonneg v2.1).symm⟩
        rw [hn2] at hn v2 ⊢
        rw [w64 (n := 40 + (n : Int)) (by omega) (by omega), if_pos (by omega), if_pos (by omega), and255 _ (by omega) (by omega), and20 _ v4.1 (by omega), b6, b7, w64 (n := (bytesOf s).getD 7 0) (by omega) (by omega), w64 (n := (bytesOf s).getD 6 0) (by omega) (by omega)]
        obtain ⟨q, rfl⟩ : ∃ q, k = q + 5 * m + 10 := ⟨k - 5 * m - 10, by omega⟩
        rw [show ((40 : Int) + (n : Int)).toNat = 40 + n by omega, rheads_walk _ _ _ _ _ _ _ _ _ m q true _ [] false 0 0 false (s.extract 40 (40 + n)) (by rw [ByteArray.size_extract]; omega) (by rw [ByteArray.size_extract]; omega) (by simp), bytesOf_extract, show 40 + n - 40 = n by omega, Int.toNat_natCast]
        have ec : valBE ((bytesOf s).take 2) / 16 % 256 = valBE ((bytesOf s).take 4) / 1048576 % 256 := by rw [e2, e4]; omega
        rw [ec]
    · rw [if_neg (fun z => h6 (h6i.mp z)), if_pos (show valBE ((bytesOf s).take 4) / 268435456 ≠ 6 from h6)]
      rfl
end Go.Proofs.Ytljboandbjahdaa.Pure
