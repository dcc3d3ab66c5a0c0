/- The CRC-32 of the program and of the document in one closed form, for strings that a machine can hold. -/
import Derived.Test.YtjlhicpkceplhaaDoorRef02
import Derived.Test.YtjlhicpkceplhaaDoorX6
namespace Go.Proofs.YtjlhicpkceplhaaDoor.Pure
open Go.RowKit Go.Proofs.YtjlhicpkceplhaaDoor.X Go.Proofs.YtjlhicpkceplhaaDoorW.PrintWords Go.Proofs.YtjlhicpkceplhaaDoorW.PrintLast Go.Proofs.YtjlhicpkceplhaaDoorW.PrintMore

def c1 (n : Nat) : Nat := if n % 2 = 1 then n / 2 ^^^ 3988292384 else n / 2
def cN : Nat → Nat → Nat
  | 0, n => n
  | k + 1, n => cN k (c1 n)
theorem c1_lt {n : Nat} (h : n < 4294967296) : c1 n < 4294967296 := by
  unfold c1; split
  · exact Nat.xor_lt_two_pow (n := 32) (by omega) (by omega)
  · omega
theorem cN_lt : ∀ (k : Nat) {n : Nat}, n < 4294967296 → cN k n < 4294967296
  | 0, _, h => h
  | k + 1, _, h => cN_lt k (c1_lt h)
theorem c1_lin (h x : Nat) : c1 (2 * h ^^^ x) = h ^^^ c1 x := by
  have e1 : (2 * h ^^^ x) % 2 = x % 2 := by
    have := Nat.xor_mod_two_pow (a := 2 * h) (b := x) (n := 1)
    simpa using this
  have e2 : (2 * h ^^^ x) / 2 = h ^^^ x / 2 := by
    have := Nat.xor_div_two_pow (a := 2 * h) (b := x) (n := 1)
    simpa using this
  unfold c1
  rw [e1, e2]
  split
  · rw [Nat.xor_assoc]
  · rfl
theorem cN_lin : ∀ (k h x : Nat), cN k (2 ^ k * h ^^^ x) = h ^^^ cN k x
  | 0, h, x => by simp [cN]
  | k + 1, h, x => by
    rw [cN, Nat.pow_succ, Nat.mul_comm (2 ^ k) 2, Nat.mul_assoc, c1_lin, cN_lin k h (c1 x), cN]
theorem split8 (y : Nat) : 2 ^ 8 * (y / 2 ^ 8) ^^^ y % 2 ^ 8 = y := by
  have e1 : (2 ^ 8 * (y / 2 ^ 8) ^^^ y % 2 ^ 8) / 2 ^ 8 = y / 2 ^ 8 := by
    rw [Nat.xor_div_two_pow, Nat.mul_div_cancel_left _ (by decide), Nat.div_eq_of_lt (Nat.mod_lt _ (by decide)), Nat.xor_zero]
  have e2 : (2 ^ 8 * (y / 2 ^ 8) ^^^ y % 2 ^ 8) % 2 ^ 8 = y % 2 ^ 8 := by
    rw [Nat.xor_mod_two_pow, Nat.mul_mod_right, Nat.mod_mod, Nat.zero_xor]
  have h1 := Nat.div_add_mod (2 ^ 8 * (y / 2 ^ 8) ^^^ y % 2 ^ 8) (2 ^ 8)
  have h2 := Nat.div_add_mod y (2 ^ 8)
  rw [e1, e2] at h1
  omega
theorem cN8 (r c : Nat) (hc : c < 256) : r / 256 ^^^ cN 8 (r % 256 ^^^ c) = cN 8 (r ^^^ c) := by
  have h := cN_lin 8 ((r ^^^ c) / 2 ^ 8) ((r ^^^ c) % 2 ^ 8)
  rw [split8, Nat.xor_div_two_pow, Nat.xor_mod_two_pow] at h
  rw [h, show c / 2 ^ 8 = 0 by omega, show c % 2 ^ 8 = c by omega, Nat.xor_zero]
theorem crc1_nat (n : Nat) (h : n < 4294967296) : crc1 (n : Int) = (c1 n : Int) := by
  have e : Go.bits .and .u32 (n : Int) 1 = ((n % 2 : Nat) : Int) := by
    rw [show (1 : Int) = ((1 : Nat) : Int) from rfl, u32_and_nat n 1 h (by decide), Nat.and_one_is_mod]
  unfold crc1 c1
  rw [e]
  by_cases hb : n % 2 = 1
  · rw [if_pos (by omega), if_pos hb, show (n : Int) / 2 = ((n / 2 : Nat) : Int) by omega, show (3988292384 : Int) = ((3988292384 : Nat) : Int) from rfl, u32_xor_nat _ _ (by omega) (by decide)]
  · rw [if_neg (by omega), if_neg hb]; omega
theorem crcN_nat : ∀ (k n : Nat), n < 4294967296 → crcN k (n : Int) = (cN k n : Int)
  | 0, _, _ => rfl
  | k + 1, n, h => by rw [crcN, crc1_nat n h, crcN_nat k _ (c1_lt h), cN]
/-- The run over the bytes, as the document does it. -/
def crcNat (l : List Int) (r : Nat) : Nat := l.foldl (fun r c => cN 8 (r ^^^ c.toNat)) r
theorem xor_lt {a b : Nat} (h : a < 4294967296) (h' : b < 4294967296) : a ^^^ b < 4294967296 := Nat.xor_lt_two_pow (n := 32) h h'
theorem crcNat_lt : ∀ (l : List Int) (r : Nat), (∀ x ∈ l, 0 ≤ x ∧ x < 256) → r < 4294967296 → crcNat l r < 4294967296
  | [], _, _, h => h
  | c :: l, r, hl, h => by
    have hc := hl c (by simp)
    exact crcNat_lt l _ (fun x hx => hl x (by simp [hx])) (cN_lt 8 (xor_lt h (by omega)))
theorem crcRun_nat : ∀ (l : List Int) (r : Nat), (∀ x ∈ l, 0 ≤ x ∧ x < 256) → r < 4294967296 → crcRun l (r : Int) = (crcNat l r : Int)
  | [], _, _, _ => rfl
  | c :: l, r, hl, h => by
    have hc := hl c (by simp)
    obtain ⟨n, rfl⟩ := Int.eq_ofNat_of_zero_le hc.1
    have hn : n < 256 := by omega
    have e : crcPut (r : Int) (n : Int) = (cN 8 (r ^^^ n) : Nat) := by
      unfold crcPut
      rw [show (r : Int) % 256 = ((r % 256 : Nat) : Int) by omega, show (r : Int) / 256 = ((r / 256 : Nat) : Int) by omega, u8_xor_nat _ _ (by omega) hn,
        crcN_nat 8 _ (xor_lt (by omega) (by omega)), u32_xor_nat _ _ (by omega) (cN_lt 8 (xor_lt (by omega) (by omega))), cN8 r n hn]
    show crcRun l (crcPut (r : Int) (n : Int)) = _
    rw [e, crcRun_nat l _ (fun x hx => hl x (by simp [hx])) (cN_lt 8 (xor_lt h (by omega)))]
    rfl
/-- The CRC-32 continued from c over s. -/
def crcOf (c : Nat) (s : ByteArray) : Nat := 4294967295 ^^^ crcNat (bytesOf s) (4294967295 ^^^ c)
theorem crcOf_lt (c : Nat) (s : ByteArray) (h : c < 4294967296) : crcOf c s < 4294967296 := xor_lt (by decide) (crcNat_lt _ _ (bytesOf_range s) (xor_lt (by decide) h))
theorem u32max : IntKind.u32.max = ((4294967295 : Nat) : Int) := by decide
theorem crcUpdate_is (c : Nat) (s : ByteArray) (h : c < 4294967296) (hs : s.size ≤ 9223372036854775807) : checksum_CrcUpdate.f (c : Int) s = some (crcOf c s : Int) := by
  unfold checksum_CrcUpdate.f crcOf
  rw [if_pos hs, u32max, u32_xor_nat _ _ (by decide) h, crcRun_nat _ _ (bytesOf_range s) (xor_lt (by decide) h),
    u32_xor_nat _ _ (by decide) (crcNat_lt _ _ (bytesOf_range s) (xor_lt (by decide) h))]
theorem crc_is (s : ByteArray) (hs : s.size ≤ 9223372036854775807) : checksum_Crc.f s = some (crcOf 0 s : Int) := by
  unfold checksum_Crc.f
  rw [show (0 : Int) = ((0 : Nat) : Int) from rfl, crcUpdate_is 0 s (by decide) hs]
  rfl
theorem crcOf_append (a b : ByteArray) (c : Nat) : crcOf (crcOf c a) b = crcOf c (a ++ b) := by
  unfold crcOf
  rw [← Nat.xor_assoc, Nat.xor_self, Nat.zero_xor, bytesOf_append]
  simp [crcNat, List.foldl_append]
theorem crcOf_nil (c : Nat) : crcOf c (⟨#[]⟩ : ByteArray) = c := by
  unfold crcOf
  rw [bytesOf_nil]
  simp only [crcNat, List.foldl_nil]
  rw [← Nat.xor_assoc, Nat.xor_self, Nat.zero_xor]
theorem rcrc_bits (s : ByteArray) (i : Int) (hi : i < 9223372036854775807) (hi0 : 0 ≤ i) : ∀ (m j k : Nat) (x : Int), m + j = 8 → intrusionref02_CrcUpdate.l1 (k + m + 1) s x i (j : Int) = intrusionref02_CrcUpdate.l0 k s (crcN m x) (i + 1)
  | 0, j, k, x, h => by
    unfold intrusionref02_CrcUpdate.l1
    rw [if_neg (by omega), w64 (by omega) (by omega)]
    rfl
  | m + 1, j, k, x, h => by
    have ih := rcrc_bits s i hi hi0 m (j + 1) k (crc1 x) (by omega)
    rw [show k + (m + 1) + 1 = (k + m + 1) + 1 by omega]
    unfold intrusionref02_CrcUpdate.l1
    rw [if_pos (by omega), w64 (n := (j : Int) + 1) (by omega) (by omega), crcN, ← ih]
    rw [show ((j : Int) + 1) = ((j + 1 : Nat) : Int) by omega]
    unfold crc1
    split <;> rfl
theorem drop_cons (l : List Int) (i : Nat) (h : i < l.length) : l.drop i = l.getD i 0 :: l.drop (i + 1) := by
  rw [List.drop_eq_getElem_cons h]
  simp [List.getD_eq_getElem?_getD, List.getElem?_eq_getElem h]
theorem rcrc_loop (s : ByteArray) (hs : s.size ≤ 4611686018427387904) : ∀ (n i k r : Nat), i + n = s.size → r < 4294967296 →
    intrusionref02_CrcUpdate.l0 (10 * n + k + 1) s (r : Int) (i : Int) = some ((4294967295 ^^^ crcNat ((bytesOf s).drop i) r : Nat) : Int)
  | 0, i, k, r, h, hr => by
    have hlen := bytesOf_length s
    unfold intrusionref02_CrcUpdate.l0
    rw [if_neg (by omega), List.drop_of_length_le (by omega)]
    rw [show (4294967295 : Int) = ((4294967295 : Nat) : Int) from rfl, u32_xor_nat _ _ hr (by decide), Nat.xor_comm]
    rfl
  | n + 1, i, k, r, h, hr => by
    have hlen := bytesOf_length s
    have hb := bt_range s i
    rw [show 10 * (n + 1) + k + 1 = (10 * n + k + 1 + 8 + 1) + 1 by omega]
    unfold intrusionref02_CrcUpdate.l0
    rw [if_pos (by omega), if_pos (by omega), show bt s (i : Int) % 4294967296 = ((bt s (i : Int)).toNat : Int) by omega, u32_xor_nat _ _ hr (by omega),
      show (0 : Int) = ((0 : Nat) : Int) from rfl, rcrc_bits s i (by omega) (by omega) 8 0 _ _ rfl, crcN_nat 8 _ (xor_lt hr (by omega)),
      show (i : Int) + 1 = ((i + 1 : Nat) : Int) by omega, rcrc_loop s hs n (i + 1) k _ (by omega) (cN_lt 8 (xor_lt hr (by omega))), drop_cons _ i (by omega), ← bt_eq]
    rfl
theorem rcrcUpdate_is (c : Nat) (s : ByteArray) (h : c < 4294967296) (hs : s.size ≤ 4611686018427387904) (k : Nat) (hk : 10 * s.size + 1 ≤ k) : intrusionref02_CrcUpdate.f k (c : Int) s = some (crcOf c s : Int) := by
  have := rcrc_loop s hs s.size 0 (k - (10 * s.size + 1)) (4294967295 ^^^ c) (by omega) (xor_lt (by decide) h)
  rw [show 10 * s.size + (k - (10 * s.size + 1)) + 1 = k by omega] at this
  unfold intrusionref02_CrcUpdate.f
  rw [show (4294967295 : Int) = ((4294967295 : Nat) : Int) from rfl, u32_xor_nat _ _ h (by decide), Nat.xor_comm]
  exact this
theorem rcrc_is (s : ByteArray) (hs : s.size ≤ 4611686018427387904) (k : Nat) (hk : 10 * s.size + 1 ≤ k) : intrusionref02_Crc.f k s = some (crcOf 0 s : Int) := by
  unfold intrusionref02_Crc.f
  rw [show (0 : Int) = ((0 : Nat) : Int) from rfl, rcrcUpdate_is 0 s (by decide) hs k hk]
  rfl
end Go.Proofs.YtjlhicpkceplhaaDoor.Pure
