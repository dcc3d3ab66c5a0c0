/- Addresses to bytes and back: what the program's functions compute, in closed form; for addresses of 4 and of 16 bytes. -/
import Derived.Test.YtljboandbjahdaaField
import Derived.Test.YtljboandbjahdaaX8
import Derived.Test.YtljboandbjahdaaX4
namespace Go.Proofs.Ytljboandbjahdaa.Pure
open Go.RowKit Go.Proofs.Ytljboandbjahdaa.X Go.Proofs.YtljboandbjahdaaW.PrintWords Go.Proofs.YtljboandbjahdaaW.PrintLast Go.Proofs.YtljboandbjahdaaW.PrintMore

theorem wu64 {n : Int} (h : 0 ≤ n) (h' : n < 18446744073709551616) : IntKind.u64.wrap n = n := u64_wrap_id n h h'
theorem or8u (x b : Int) (h0 : 0 ≤ x) (h1 : x < 18446744073709551616) (hx : x % 256 = 0) (hb0 : 0 ≤ b) (hb : b < 256) : Go.bits .or .u64 x b = x + b :=
  bits_join .u64 64 (by decide) (fun n h h' => wu64 h (by omega)) 8 x b h0 (by omega) (by omega) hb0 (by omega) (by omega)
theorem shrU64 (n : Int) (i : Nat) (h : i ≤ 8) : shr .u64 n (8 * (i : Int)) = n / 256 ^ i := by
  unfold shr
  have e : IntKind.u64.bits = 64 := rfl
  rw [e, show (8 * (i : Int)).toNat = 8 * i by omega, Nat.min_eq_left (by omega), Int.pow_mul]
  rfl
theorem bt_get (s : ByteArray) (i : Nat) (h : i < (bytesOf s).length) : bt s (i : Int) = (bytesOf s)[i] := by
  rw [bt_eq, List.getD_eq_getElem?_getD, List.getElem?_eq_getElem h]
  rfl
theorem valBE_snoc (l : List Int) (c : Int) : valBE (l ++ [c]) = valBE l * 256 + c := by unfold valBE; rw [List.foldl_append]; rfl
theorem pow8 (n : Nat) (h : n ≤ 7) : (256 : Int) ^ n ≤ 72057594037927936 := by
  have hn : 256 ^ n ≤ 72057594037927936 := Nat.le_trans (Nat.pow_le_pow_right (by decide) h) (by decide)
  have hc : ((256 ^ n : Nat) : Int) = (256 : Int) ^ n := Int.natCast_pow 256 _
  omega
/-- The bytes of an address. -/
def adrB (v6 : Bool) (hi lo : Int) : List Int := if v6 = true then beN 8 hi ++ beN 8 lo else beN 4 lo
theorem adrB_range (v6 : Bool) (hi lo : Int) : ∀ x ∈ adrB v6 hi lo, 0 ≤ x ∧ x < 256 := by
  intro x hx
  unfold adrB at hx
  split at hx
  · rcases List.mem_append.mp hx with h | h <;> exact beN_range _ _ x h
  · exact beN_range _ _ x hx
theorem adrB_len (v6 : Bool) (hi lo : Int) : (adrB v6 hi lo).length = if v6 = true then 16 else 4 := by
  unfold adrB
  split <;> simp [beN_length]
theorem abytes_loop (n : Int) (z : Nat) (hz : z ≤ 8) : ∀ (m i k : Nat) (x : List Int), i + m = z → x.length ≤ i →
    address_bytes.l0 (k + m + 1) n z x z i = some (strOfNums (x ++ beN m n))
  | 0, i, k, x, h, hx => by
    unfold address_bytes.l0
    rw [if_neg (by omega)]
    simp [beN]
  | m + 1, i, k, x, h, hx => by
    rw [show k + (m + 1) + 1 = (k + m + 1) + 1 by omega]
    unfold address_bytes.l0
    rw [w64 (n := (z : Int) - 1) (by omega) (by omega), w64 (n := (z : Int) - 1 - i) (by omega) (by omega), w64 (n := 8 * ((z : Int) - 1 - i)) (by omega) (by omega), w64 (n := (i : Int) + 1) (by omega) (by omega)]
    rw [if_pos (by omega), if_pos (by omega), if_pos (by omega), show (z : Int) - 1 - i = (m : Int) by omega, shrU64 n m (by omega), show (i : Int) + 1 = ((i + 1 : Nat) : Int) by omega,
      abytes_loop n z hz m (i + 1) k _ (by omega) (by simp; omega)]
    simp [beN]
theorem abytes_is (n : Int) (z : Nat) (hz : z ≤ 8) (k : Nat) (hk : 10 ≤ k) : address_bytes.f k n z = some (strOfNums (beN z n)) := by
  have h := abytes_loop n z hz z 0 (k - z - 1) [] (by omega) (by simp)
  rw [show k - z - 1 + z + 1 = k by omega] at h
  unfold address_bytes.f
  simpa using h
theorem aBytes_is (v6 : Bool) (hi lo : Int) (k : Nat) (hk : 10 ≤ k) : address_Bytes.f k v6 hi lo = some (strOfNums (adrB v6 hi lo)) := by
  unfold address_Bytes.f adrB
  have a1 := abytes_is hi 8 (by omega) k hk
  have a2 := abytes_is lo 8 (by omega) k hk
  have a3 := abytes_is lo 4 (by omega) k hk
  rw [show ((8 : Nat) : Int) = 8 from rfl] at a1 a2
  rw [show ((4 : Nat) : Int) = 4 from rfl] at a3
  split
  · rw [a1, a2]
    simp only [bs]
    rw [if_pos (by rw [strOfNums_size, strOfNums_size, beN_length, beN_length]; omega), ← strOfNums_append]
  · rw [a3]
    simp only [bs]
/-- One byte more of a number of at most 8 bytes. -/
theorem val_step (l : List Int) (hl : ∀ x ∈ l, 0 ≤ x ∧ x < 256) (i : Nat) (h : i < l.length) (h8 : l.length ≤ 8) :
    Go.bits .or .u64 (IntKind.u64.wrap (valBE (l.take i) * 256)) l[i] = valBE (l.take (i + 1)) := by
  have ht : l.take (i + 1) = l.take i ++ [l[i]] := by rw [List.take_add_one]; simp [h]
  have hr := valBE_range (l.take i) (fun x hx => hl x (List.mem_of_mem_take hx))
  have hc := hl l[i] (List.getElem_mem h)
  have hp := pow8 (l.take i).length (by simp; omega)
  rw [ht, valBE_snoc, wu64 (by omega) (by omega), or8u _ _ (by omega) (by omega) (by omega) hc.1 hc.2]
theorem aval_loop (s : ByteArray) (h8 : s.size ≤ 8) : ∀ (m i k : Nat), i + m = s.size →
    address_value.l0 (k + m + 1) s (valBE ((bytesOf s).take i)) s.size i = some (valBE (bytesOf s))
  | 0, i, k, h => by
    have hl := bytesOf_length s
    unfold address_value.l0
    rw [if_neg (by omega), List.take_of_length_le (by omega)]
  | m + 1, i, k, h => by
    have hl := bytesOf_length s
    rw [show k + (m + 1) + 1 = (k + m + 1) + 1 by omega]
    unfold address_value.l0
    rw [if_pos (by omega), if_pos (by omega), if_pos (by omega), bt_get s i (by omega), val_step _ (bytesOf_range s) i (by omega) (by omega), w64 (n := (i : Int) + 1) (by omega) (by omega), show (i : Int) + 1 = ((i + 1 : Nat) : Int) by omega]
    exact aval_loop s h8 m (i + 1) k (by omega)
theorem aval_is (s : ByteArray) (h8 : s.size ≤ 8) (k : Nat) (hk : 10 ≤ k) : address_value.f k s = some (valBE (bytesOf s)) := by
  have h := aval_loop s h8 s.size 0 (k - s.size - 1) (by omega)
  rw [show k - s.size - 1 + s.size + 1 = k by omega] at h
  unfold address_value.f
  simpa [valBE] using h
theorem aFrom4 (s : ByteArray) (h : s.size = 4) (k : Nat) (hk : 10 ≤ k) : address_FromBytes.f k s = some (false, 0, valBE (bytesOf s), 0) := by
  unfold address_FromBytes.f
  rw [if_pos (by omega), aval_is s (by omega) k hk]
  simp only [bs]
theorem aFrom16 (s : ByteArray) (h : s.size = 16) (k : Nat) (hk : 10 ≤ k) : address_FromBytes.f k s = some (true, valBE ((bytesOf s).take 8), valBE ((bytesOf s).drop 8), 0) := by
  have hl := bytesOf_length s
  unfold address_FromBytes.f
  rw [if_neg (by omega), if_pos (by omega), if_pos (by omega), if_pos (by omega), aval_is _ (by simp; omega) k hk, aval_is _ (by simp; omega) k hk]
  simp only [bs]
  rw [bytesOf_extract, bytesOf_extract, List.drop_zero, List.take_of_length_le (l := List.drop 8 (bytesOf s)) (by simp; omega)]
end Go.Proofs.Ytljboandbjahdaa.Pure
