/- TunnelNests as a plain law: a datagram survives being made a packet, and a tunnel within a tunnel can be unwrapped twice, for at most 5000 bytes; no condition but that a machine holds the bytes. -/
import Derived.Test.YtocobalkikkhlaaDoorXDTunnelNests
import Derived.Test.YtocobalkikkhlaaDoorX0
import Derived.Laws.Bits128
import Derived.Laws.BitsAllLaws
import Derived.Lib.EndianBits
import Derived.Test.YtocobalkikkhlaaDoorX4
import Derived.Test.YtocobalkikkhlaaDoorX6
import Derived.Test.YtocobalkikkhlaaDoorX5
import Derived.Test.YtocobalkikkhlaaDoorX7
import Derived.Test.YtocobalkikkhlaaDoorX19
import Derived.Test.YtocobalkikkhlaaDoorX9
import Derived.Test.YtocobalkikkhlaaDoorX14
import Derived.Test.YtocobalkikkhlaaDoorX13
import Derived.Test.YtocobalkikkhlaaDoorX11
import Derived.Test.YtocobalkikkhlaaDoorX12
import Derived.Lib.QuoteBits
import Derived.Test.YtocobalkikkhlaaDoorX15
import Derived.Test.YtocobalkikkhlaaDoorX10
import Derived.Test.YtocobalkikkhlaaDoorX8
import Derived.Test.YtocobalkikkhlaaDoorX17
import Derived.Test.YtocobalkikkhlaaDoorX16
import Derived.Test.YtocobalkikkhlaaDoorX18
/-! ### Base -/
namespace Go.Proofs.YtocobalkikkhlaaDoor.Pure
open Go.RowKit Go.Proofs.YtocobalkikkhlaaDoor.X Go.Proofs.YtocobalkikkhlaaDoorW.PrintWords Go.Proofs.YtocobalkikkhlaaDoorW.PrintLast Go.Proofs.YtocobalkikkhlaaDoorW.PrintMore

/-- Told without 'rfl': a simp by it leaves the kernel little to compare. -/
theorem bs {α β : Type} (a : α) (f : α → Option β) : (some a).bind f = f a := by
  cases h : (some a) with
  | none => cases h
  | some b => injection h with h; subst h; rfl
theorem w64 {n : Int} (h : -9223372036854775808 ≤ n) (h' : n < 9223372036854775808) : wrap64 n = n := by unfold wrap64; omega
theorem and16 (n : Int) : Go.bits .and .i64 n 65535 = n % 65536 := by
  have h127 : (BitVec.ofInt 64 65535).toNat = 2 ^ 16 - 1 := by decide
  have key : (BitVec.ofInt 64 n &&& BitVec.ofInt 64 65535).toNat = (n % ((2 ^ 64 : Nat) : Int)).toNat % 2 ^ 16 := by
    rw [BitVec.toNat_and, BitVec.toNat_ofInt, h127, Nat.and_two_pow_sub_one_eq_mod]
  show IntKind.i64.wrap ((BitVec.ofInt 64 n &&& BitVec.ofInt 64 65535).toNat : Nat) = n % 65536
  rw [key, IntKind.wrap_i64]
  omega
theorem wraps_i64' (n : Int) (h₀ : 0 ≤ n) (h₁ : n < 2 ^ 63) : IntKind.i64.wrap n = n := by rw [IntKind.wrap_i64]; omega
/-- 'x*256 | b' on int. -/
theorem or8 (x b : Int) (h0 : 0 ≤ x) (h1 : x < 9223372036854775808) (hx : x % 256 = 0) (hb0 : 0 ≤ b) (hb : b < 256) : Go.bits .or .i64 x b = x + b :=
  bits_join .i64 63 (by decide) wraps_i64' 8 x b h0 (by omega) (by omega) hb0 (by omega) (by omega)
theorem bytesOf_data (s : ByteArray) : bytesOf s = s.data.toList.map fun b => (b.toNat : Int) := rfl
theorem bytesOf_append (a b : ByteArray) : bytesOf (a ++ b) = bytesOf a ++ bytesOf b := by
  simp [bytesOf, ByteArray.data_append]
theorem bytesOf_nil : bytesOf (⟨#[]⟩ : ByteArray) = [] := rfl
theorem bytesOf_extract (s : ByteArray) (i j : Nat) : bytesOf (s.extract i j) = ((bytesOf s).drop i).take (j - i) := by
  simp [bytesOf, ByteArray.data_extract, List.map_take, List.map_drop]
  try rw [List.extract_eq_take_drop]
theorem bytesOf_range (s : ByteArray) : ∀ x ∈ bytesOf s, 0 ≤ x ∧ x < 256 := by
  intro x hx
  obtain ⟨b, _, rfl⟩ := List.mem_map.mp hx
  have := b.toNat_lt
  omega
theorem bytesOf_inj {a b : ByteArray} (h : bytesOf a = bytesOf b) : a = b := by
  have h2 : a.data.toList = b.data.toList := by
    refine List.map_inj_right (f := fun (b : UInt8) => (b.toNat : Int)) ?_ |>.mp h
    intro x y hxy
    exact UInt8.toNat_inj.mp (by exact_mod_cast hxy)
  cases a; cases b
  simp at h2
  simp [h2]
theorem bytesOf_strOfNums (l : List Int) (h : ∀ x ∈ l, 0 ≤ x ∧ x < 256) : bytesOf (strOfNums l) = l := by
  induction l with
  | nil => rfl
  | cons x l ih =>
    have h1 := h x (by simp)
    have h2 := ih (fun y hy => h y (by simp [hy]))
    simp only [bytesOf, strOfNums_data, List.map_map, List.map_cons] at h2 ⊢
    refine List.cons_eq_cons.mpr ⟨?_, h2⟩
    simp only [UInt8.toNat_ofNat']
    omega
theorem bt_eq (s : ByteArray) (i : Nat) : bt s (i : Int) = (bytesOf s).getD i 0 := by
  unfold bt bytesOf
  rw [Int.toNat_natCast]
  by_cases h : i < s.size
  · have h' : i < s.data.toList.length := by rw [Array.length_toList]; exact h
    rw [dif_pos h]
    simp [List.getD_eq_getElem?_getD, List.getElem?_eq_getElem h']
    rfl
  · have h' : s.data.toList.length ≤ i := by rw [Array.length_toList]; exact Nat.not_lt.1 h
    rw [dif_neg h]
    simp [List.getD_eq_getElem?_getD, List.getElem?_eq_none h']
theorem bt_range (s : ByteArray) (i : Int) : 0 ≤ bt s i ∧ bt s i ≤ 255 := by
  unfold bt
  split
  · rename_i h
    have := (s[i.toNat]'h).toNat_lt
    omega
  · omega
theorem size_bytes (s : ByteArray) : s.size = (bytesOf s).length := (bytesOf_length s).symm
theorem size_append (a b : ByteArray) : (a ++ b).size = a.size + b.size := by simp
theorem toList_congr {a b : ByteArray} (h : bytesOf a = bytesOf b) : a.toList = b.toList := by rw [bytesOf_inj h]
theorem strOfNums_append (a b : List Int) : strOfNums (a ++ b) = strOfNums a ++ strOfNums b := by
  apply ByteArray.ext; simp [strOfNums, ByteArray.data_append]
theorem strOfNums_length (a : List Int) : (strOfNums a).size = a.length := strOfNums_size a
theorem wf_i64 {n : Int} (h : (Lit.int .i64 n).wf = true) : -9223372036854775808 ≤ n ∧ n < 9223372036854775808 := by
  simp only [Lit.wf, Bool.and_eq_true, decide_eq_true_eq] at h
  have e1 : IntKind.i64.min = -9223372036854775808 := by decide
  have e2 : IntKind.i64.max = 9223372036854775807 := by decide
  omega
theorem wf_u64 {n : Int} (h : (Lit.int .u64 n).wf = true) : 0 ≤ n ∧ n < 18446744073709551616 := by
  simp only [Lit.wf, Bool.and_eq_true, decide_eq_true_eq] at h
  have e1 : IntKind.u64.min = 0 := by decide
  have e2 : IntKind.u64.max = 18446744073709551615 := by decide
  omega
theorem wf_u32 {n : Int} (h : (Lit.int .u32 n).wf = true) : 0 ≤ n ∧ n < 4294967296 := by
  simp only [Lit.wf, Bool.and_eq_true, decide_eq_true_eq] at h
  have e1 : IntKind.u32.min = 0 := by decide
  have e2 : IntKind.u32.max = 4294967295 := by decide
  omega
theorem wf_u16 {n : Int} (h : (Lit.int .u16 n).wf = true) : 0 ≤ n ∧ n < 65536 := by
  simp only [Lit.wf, Bool.and_eq_true, decide_eq_true_eq] at h
  have e1 : IntKind.u16.min = 0 := by decide
  have e2 : IntKind.u16.max = 65535 := by decide
  omega
theorem wf_u8 {n : Int} (h : (Lit.int .u8 n).wf = true) : 0 ≤ n ∧ n < 256 := by
  simp only [Lit.wf, Bool.and_eq_true, decide_eq_true_eq] at h
  have e1 : IntKind.u8.min = 0 := by decide
  have e2 : IntKind.u8.max = 255 := by decide
  omega
end Go.Proofs.YtocobalkikkhlaaDoor.Pure

/-! ### SumA -/
namespace Go.Proofs.YtocobalkikkhlaaDoor.Pure
open Go.RowKit Go.Proofs.YtocobalkikkhlaaDoor.X Go.Proofs.YtocobalkikkhlaaDoorW.PrintWords Go.Proofs.YtocobalkikkhlaaDoorW.PrintLast Go.Proofs.YtocobalkikkhlaaDoorW.PrintMore

/-- The total of the 16-bit words of a list of bytes. -/
def tot : List Int → Int
  | [] => 0
  | [a] => a * 256
  | a :: b :: r => a * 256 + b + tot r
/-- The one's complement residue, 1 to 65535, or 0 for 0. -/
def canon (t : Int) : Int := if t = 0 then 0 else (t - 1) % 65535 + 1
theorem tot_nonneg : ∀ l : List Int, (∀ x ∈ l, 0 ≤ x ∧ x < 256) → 0 ≤ tot l
  | [], _ => by simp [tot]
  | [a], h => by have := h a (by simp); simp only [tot]; omega
  | a :: b :: r, h => by
    have h1 := h a (by simp)
    have h2 := h b (by simp)
    have h3 := tot_nonneg r (fun x hx => h x (by simp [hx]))
    simp only [tot]; omega
theorem tot_append : ∀ a b : List Int, a.length % 2 = 0 → tot (a ++ b) = tot a + tot b
  | [], b, _ => by simp [tot]
  | [x], b, h => by simp at h
  | x :: y :: r, b, h => by
    have := tot_append r b (by simp at h; omega)
    simp only [tot, List.cons_append, this]; omega
theorem canon_range {t : Int} (_h : 0 ≤ t) : 0 ≤ canon t ∧ canon t ≤ 65535 := by
  unfold canon; split <;> omega
theorem canon_step {t w : Int} (ht : 0 ≤ t) (h0 : 0 ≤ w) (h1 : w ≤ 65535) : (if canon t + w > 65535 then canon t + w - 65535 else canon t + w) = canon (t + w) := by
  unfold canon; split <;> split <;> split <;> omega
theorem fold_some (x : Int) (h0 : 0 ≤ x) (h1 : x ≤ 131070) : checksum_fold.f x = some (if x > 65535 then x - 65535 else x) := by
  unfold checksum_fold.f
  split
  · rw [w64 (by omega) (by omega)]
  · rfl
theorem drop_two (l : List Int) (i : Nat) (h : i + 1 < l.length) : l.drop i = l.getD i 0 :: l.getD (i + 1) 0 :: l.drop (i + 2) := by
  rw [List.drop_eq_getElem_cons (by omega), List.drop_eq_getElem_cons (by omega)]
  simp [List.getD_eq_getElem?_getD, List.getElem?_eq_getElem (show i < l.length by omega), List.getElem?_eq_getElem h]
theorem drop_one (l : List Int) (i : Nat) (h : i + 1 = l.length) : l.drop i = [l.getD i 0] := by
  rw [List.drop_eq_getElem_cons (by omega), List.drop_of_length_le (by omega)]
  simp [List.getD_eq_getElem?_getD, List.getElem?_eq_getElem (show i < l.length by omega)]
theorem sum_loop (s : ByteArray) (hs : s.size ≤ 4611686018427387904) : ∀ (k i : Nat) (t : Int), 0 ≤ t → s.size + 2 < 2 * k + i → i ≤ s.size + 1 →
    checksum_Sum.l0 k s (canon t) i = some (65535 - canon (t + tot ((bytesOf s).drop i)))
  | 0, i, t, _, h, h2 => by omega
  | k + 1, i, t, ht, h, h2 => by
    have hlen := bytesOf_length s
    have hr := canon_range ht
    unfold checksum_Sum.l0
    by_cases h1 : (i : Int) < (s.size : Int)
    · rw [if_pos h1, if_pos (by omega), w64 (n := (i : Int) + 1) (by omega) (by omega)]
      have hb := bt_range s i
      have hb2 := bt_range s ((i : Int) + 1)
      have hm : wrap64 (wrap64 (bt s i) * 256) = bt s i * 256 := by rw [w64 (n := bt s i) (by omega) (by omega), w64 (by omega) (by omega)]
      rw [hm, w64 (n := (i : Int) + 2) (by omega) (by omega), show ((i : Int) + 2) = ((i + 2 : Nat) : Int) by omega]
      by_cases h3 : (i : Int) + 1 < (s.size : Int)
      · rw [if_pos h3, if_pos (by omega), w64 (n := bt s ((i : Int) + 1)) (by omega) (by omega), or8 _ _ (by omega) (by omega) (by omega) (by omega) (by omega),
          w64 (by omega) (by omega), fold_some _ (by omega) (by omega), Option.bind_some, canon_step ht (by omega) (by omega),
          sum_loop s hs k (i + 2) _ (by omega) (by omega) (by omega), drop_two _ i (by omega), tot]
        rw [show ((i : Int) + 1) = ((i + 1 : Nat) : Int) by omega, bt_eq, bt_eq, Int.add_assoc]
      · rw [if_neg h3, w64 (by omega) (by omega), fold_some _ (by omega) (by omega), Option.bind_some, canon_step ht (by omega) (by omega),
          sum_loop s hs k (i + 2) _ (by omega) (by omega) (by omega), drop_one _ i (by omega), tot, List.drop_of_length_le (by omega), tot, bt_eq, Int.add_zero]
    · rw [if_neg h1, List.drop_of_length_le (by omega), tot, Int.add_zero, w64 (by omega) (by omega)]
/-- Sum in closed form. -/
def sumOf (s : ByteArray) : Int := 65535 - canon (tot (bytesOf s))
theorem sum_is (s : ByteArray) (hs : s.size ≤ 4611686018427387904) (k : Nat) (hk : s.size + 2 < k) : checksum_Sum.f k s = some (sumOf s) := by
  have := sum_loop s hs k 0 0 (by omega) (by omega) (by omega)
  unfold checksum_Sum.f sumOf
  simpa [canon] using this
theorem sumOf_range (s : ByteArray) : 0 ≤ sumOf s ∧ sumOf s ≤ 65535 := by
  have := canon_range (tot_nonneg _ (bytesOf_range s))
  unfold sumOf; omega
/-- Add in closed form. -/
def addOf (a b : Int) : Int := if a % 65536 + b % 65536 > 65535 then a % 65536 + b % 65536 - 65535 else a % 65536 + b % 65536
theorem addOf_range (a b : Int) : 0 ≤ addOf a b ∧ addOf a b ≤ 65535 := by unfold addOf; split <;> omega
end Go.Proofs.YtocobalkikkhlaaDoor.Pure

/-! ### Field -/
namespace Go.Proofs.YtocobalkikkhlaaDoor.Pure
open Go.RowKit Go.Proofs.YtocobalkikkhlaaDoor.X Go.Proofs.YtocobalkikkhlaaDoorW.PrintWords Go.Proofs.YtocobalkikkhlaaDoorW.PrintLast Go.Proofs.YtocobalkikkhlaaDoorW.PrintMore

/-- The last digits of a number to the base 256, the most significant first. -/
def beN : Nat → Int → List Int
  | 0, _ => []
  | i + 1, n => n / 256 ^ i % 256 :: beN i n
theorem beN_length : ∀ (i : Nat) (n : Int), (beN i n).length = i
  | 0, _ => rfl
  | i + 1, n => by simp [beN, beN_length i n]
theorem beN_range : ∀ (i : Nat) (n : Int), ∀ x ∈ beN i n, 0 ≤ x ∧ x < 256
  | 0, _, x, h => by simp [beN] at h
  | i + 1, n, x, h => by
    simp only [beN, List.mem_cons] at h
    rcases h with rfl | h
    · omega
    · exact beN_range i n x h
/-- The number of digits, the most significant first. -/
def valBE (l : List Int) : Int := l.foldl (fun n c => n * 256 + c) 0
theorem val_from : ∀ (l : List Int) (n : Int), l.foldl (fun n c => n * 256 + c) n = n * 256 ^ l.length + valBE l
  | [], n => by simp [valBE]
  | c :: l, n => by
    have h1 := val_from l (n * 256 + c)
    have h2 := val_from l (0 * 256 + c)
    unfold valBE
    simp only [List.foldl_cons, List.length_cons] at h1 h2 ⊢
    rw [h1, h2, Int.pow_succ]
    generalize (256 : Int) ^ l.length = p
    generalize valBE l = v
    rw [Int.add_mul, Int.zero_mul, Int.zero_add, Int.mul_comm p 256, ← Int.mul_assoc, Int.add_assoc]
theorem valBE_cons (c : Int) (l : List Int) : valBE (c :: l) = c * 256 ^ l.length + valBE l := by
  have h := val_from l (0 * 256 + c)
  unfold valBE
  simp only [List.foldl_cons]
  rw [h, Int.zero_mul, Int.zero_add]
  rfl
theorem valBE_range : ∀ l : List Int, (∀ x ∈ l, 0 ≤ x ∧ x < 256) → 0 ≤ valBE l ∧ valBE l < 256 ^ l.length
  | [], _ => by simp [valBE]
  | c :: l, h => by
    have h1 := valBE_range l (fun x hx => h x (by simp [hx]))
    have h2 := h c (by simp)
    have hp : (0 : Int) < 256 ^ l.length := Int.pow_pos (by decide)
    rw [valBE_cons, List.length_cons, Int.pow_succ]
    generalize (256 : Int) ^ l.length = p at *
    constructor
    · exact Int.add_nonneg (Int.mul_nonneg h2.1 (by omega)) h1.1
    · have : c * p ≤ 255 * p := Int.mul_le_mul_of_nonneg_right (by omega) (by omega)
      omega
theorem valBE_beN : ∀ (i : Nat) (n : Int), 0 ≤ n → valBE (beN i n) = n % 256 ^ i
  | 0, n, _ => by simp [beN, valBE]
  | i + 1, n, h => by
    rw [beN, valBE_cons, beN_length, valBE_beN i n h, Int.pow_succ]
    have hp : (0 : Int) < 256 ^ i := Int.pow_pos (by decide)
    have e1 := Int.emod_def n (256 ^ i * 256)
    have e2 := Int.emod_def n (256 ^ i)
    have e3 := Int.emod_def (n / 256 ^ i) 256
    rw [← Int.ediv_ediv_of_nonneg (by omega)] at e1
    rw [e1, e2, e3]
    generalize (256 : Int) ^ i = p
    generalize n / p / 256 = r
    generalize n / p = q
    grind
theorem beN_add (i : Nat) (n c : Int) : beN i (c * 256 ^ i + n) = beN i n := by
  suffices H : ∀ (i m : Nat) (c n : Int), i ≤ m → beN i (c * 256 ^ m + n) = beN i n from H i i c n (Nat.le_refl _)
  intro i
  induction i with
  | zero => intros; rfl
  | succ i ih =>
    intro m c n hm
    rw [beN, beN, ih m c n (by omega)]
    congr 1
    obtain ⟨d, rfl⟩ : ∃ d, m = i + (1 + d) := ⟨m - i - 1, by omega⟩
    have hp : (256 : Int) ^ i ≠ 0 := Int.ne_of_gt (Int.pow_pos (by decide))
    rw [Int.pow_add, ← Int.mul_assoc, Int.mul_right_comm, Int.mul_comm _ ((256 : Int) ^ i), Int.add_comm, Int.add_mul_ediv_left _ _ hp, Int.pow_add, Int.pow_one, ← Int.mul_assoc, Int.mul_right_comm]
    rw [Int.mul_comm _ 256]
    omega
theorem beN_valBE : ∀ l : List Int, (∀ x ∈ l, 0 ≤ x ∧ x < 256) → beN l.length (valBE l) = l
  | [], _ => rfl
  | c :: l, h => by
    have h1 := valBE_range l (fun x hx => h x (by simp [hx]))
    have h2 := h c (by simp)
    have hp : (0 : Int) < 256 ^ l.length := Int.pow_pos (by decide)
    rw [List.length_cons, beN, valBE_cons, beN_add, beN_valBE l (fun x hx => h x (by simp [hx]))]
    congr 1
    rw [Int.add_comm, Int.add_mul_ediv_right _ _ (by omega), Int.ediv_eq_zero_of_lt h1.1 h1.2]
    omega
theorem shr64 (n : Int) (i : Nat) (h : i ≤ 8) : shr .i64 n (8 * (i : Int)) = n / 256 ^ i := by
  unfold shr
  have e : IntKind.i64.bits = 64 := rfl
  rw [e, show (8 * (i : Int)).toNat = 8 * i by omega, Nat.min_eq_left (by omega), Int.pow_mul]
  rfl
theorem put_loop (n : Int) (size : Nat) (hs : size ≤ 7) : ∀ (m i k : Nat), i + m = size →
    field_Put.l0 (k + m + 1) n size (List.replicate m 0 ++ beN i n) size i = some (strOfNums (beN size n))
  | 0, i, k, h => by
    unfold field_Put.l0
    rw [if_neg (by omega)]
    simp only [List.replicate_zero, List.nil_append]
    rw [show i = size by omega]
  | m + 1, i, k, h => by
    rw [show k + (m + 1) + 1 = (k + m + 1) + 1 by omega]
    unfold field_Put.l0
    have hl : (List.replicate (m + 1) (0 : Int) ++ beN i n).length = size := by simp [beN_length]; omega
    rw [w64 (n := 8 * (i : Int)) (by omega) (by omega), w64 (n := (size : Int) - 1) (by omega) (by omega), w64 (n := (size : Int) - 1 - i) (by omega) (by omega), w64 (n := (i : Int) + 1) (by omega) (by omega), hl]
    rw [if_pos (by omega), if_pos (by omega), if_pos (by omega), if_pos (by omega), shr64 n i (by omega)]
    have e : (List.replicate (m + 1) (0 : Int) ++ beN i n).set ((size : Int) - 1 - i).toNat (n / 256 ^ i % 256) = List.replicate m 0 ++ beN (i + 1) n := by
      rw [show ((size : Int) - 1 - i).toNat = m by omega, List.replicate_succ', List.append_assoc, List.set_append_right _ _ (by simp)]
      simp [beN]
    rw [e, show (i : Int) + 1 = ((i + 1 : Nat) : Int) by omega]
    exact put_loop n size hs m (i + 1) k (by omega)
/-- Put in closed form. -/
def putOf (n size : Int) : ByteArray := if 1 ≤ size ∧ size ≤ 7 ∧ 0 ≤ n ∧ n < 256 ^ size.toNat then strOfNums (beN size.toNat n) else ⟨#[]⟩
theorem put_is (n size : Int) (k : Nat) (hk : 10 ≤ k) : field_Put.f k n size = some (putOf n size) := by
  obtain ⟨k, rfl⟩ : ∃ m, k = m + 1 := ⟨k - 1, by omega⟩
  unfold field_Put.f field_valid.f putOf
  by_cases h1 : 1 ≤ size
  · by_cases h7 : size ≤ 7
    · obtain ⟨z, rfl⟩ := Int.eq_ofNat_of_zero_le (show 0 ≤ size by omega)
      have hp : (0 : Int) < 256 ^ z := Int.pow_pos (by decide)
      simp only [ge_iff_le, h1, h7, if_true, decide_true, Option.bind_some, true_and, Int.toNat_natCast]
      rw [w64 (n := 8 * (z : Int)) (by omega) (by omega), shr64 n z (by omega)]
      by_cases h0 : n < 0
      · rw [if_pos h0, if_neg (show ¬ (0 ≤ n ∧ n < 256 ^ z) by omega)]
        unfold field_Put.j0
        simp
      · rw [if_neg h0, if_pos (show 0 ≤ 8 * (z : Int) by omega)]
        by_cases hb : n < 256 ^ z
        · rw [if_pos ⟨by omega, hb⟩, Int.ediv_eq_zero_of_lt (by omega) hb]
          unfold field_Put.j0
          have hl := put_loop n z (by omega) z 0 (k - z - 1) (by omega)
          rw [show k - z - 1 + z + 1 = k by omega] at hl
          simp only [bne_self_eq_false, Bool.false_eq_true, if_false]
          rw [if_pos (by omega), if_pos (by omega)]
          simpa [beN] using hl
        · have h3 : n / 256 ^ z ≠ 0 := by
            intro hz
            have := Int.lt_ediv_add_one_mul_self n hp
            rw [hz] at this
            omega
          rw [if_neg (fun h => hb h.2)]
          unfold field_Put.j0
          simp [h3]
    · have hn : ¬ (1 ≤ size ∧ size ≤ 7 ∧ 0 ≤ n ∧ n < 256 ^ size.toNat) := fun h => h7 h.2.1
      rw [if_pos (show size ≥ 1 from h1), if_neg hn]
      unfold field_Put.j0
      simp [h7]
  · have hn : ¬ (1 ≤ size ∧ size ≤ 7 ∧ 0 ≤ n ∧ n < 256 ^ size.toNat) := fun h => h1 h.1
    rw [if_neg (show ¬ size ≥ 1 from h1), if_neg hn]
    unfold field_Put.j0
    simp
theorem putOf_size (n size : Int) (h1 : 1 ≤ size) (h7 : size ≤ 7) (h0 : 0 ≤ n) (hb : n < 256 ^ size.toNat) : bytesOf (putOf n size) = beN size.toNat n := by
  unfold putOf
  rw [if_pos ⟨h1, h7, h0, hb⟩, bytesOf_strOfNums _ (beN_range _ _)]
theorem putOf_len (n size : Int) : (putOf n size).size ≤ 7 := by
  unfold putOf
  split
  · rw [strOfNums_size, beN_length]; omega
  · decide
theorem number_loop (l : List Int) (hl : ∀ x ∈ l, 0 ≤ x ∧ x < 256) (h7 : l.length ≤ 7) : ∀ (m i k : Nat), i + m = l.length →
    field_number.l0 (k + m + 1) (valBE (l.take i)) l l.length i = some (valBE l)
  | 0, i, k, h => by
    unfold field_number.l0
    rw [if_neg (by omega), List.take_of_length_le (by omega)]
  | m + 1, i, k, h => by
    rw [show k + (m + 1) + 1 = (k + m + 1) + 1 by omega]
    have hlt : i < l.length := by omega
    have ht : l.take (i + 1) = l.take i ++ [l[i]] := by rw [List.take_add_one]; simp [hlt]
    have e : valBE (l.take (i + 1)) = valBE (l.take i) * 256 + l[i] := by
      rw [ht]; unfold valBE; rw [List.foldl_append]; rfl
    have hr := valBE_range (l.take i) (fun x hx => hl x (List.mem_of_mem_take hx))
    have hc := hl l[i] (List.getElem_mem hlt)
    have hpow : (256 : Int) ^ (l.take i).length ≤ 281474976710656 := by
      have h6 : (l.take i).length ≤ 6 := by simp; omega
      have hn : 256 ^ (l.take i).length ≤ 281474976710656 := Nat.le_trans (Nat.pow_le_pow_right (by decide) h6) (by decide)
      have hc : ((256 ^ (l.take i).length : Nat) : Int) = (256 : Int) ^ (l.take i).length := Int.natCast_pow 256 _
      omega
    have hrd : rd l i = l[i] := by unfold rd; rw [Int.toNat_natCast, List.getD_eq_getElem?_getD, List.getElem?_eq_getElem hlt]; rfl
    unfold field_number.l0
    rw [if_pos (by omega), if_pos (by omega), if_pos (by omega), hrd, w64 (n := l[i]) (by omega) (by omega), w64 (n := valBE (l.take i) * 256) (by omega) (by omega), or8 _ _ (by omega) (by omega) (by omega) (by omega) (by omega), w64 (n := (i : Int) + 1) (by omega) (by omega), ← e,
      show (i : Int) + 1 = ((i + 1 : Nat) : Int) by omega]
    exact number_loop l hl h7 m (i + 1) k (by omega)
theorem number_is (l : List Int) (hl : ∀ x ∈ l, 0 ≤ x ∧ x < 256) (h7 : l.length ≤ 7) (k : Nat) (hk : 8 ≤ k) : field_number.f k l = some (valBE l) := by
  have h := number_loop l hl h7 l.length 0 (k - l.length - 1) (by omega)
  rw [show k - l.length - 1 + l.length + 1 = k by omega] at h
  unfold field_number.f
  simpa [valBE] using h
end Go.Proofs.YtocobalkikkhlaaDoor.Pure

/-! ### TunH -/
set_option linter.unusedVariables false
set_option linter.unusedSimpArgs false
namespace Go.Proofs.YtocobalkikkhlaaDoor.Pure
open Go.RowKit Go.Proofs.YtocobalkikkhlaaDoor.X Go.Proofs.YtocobalkikkhlaaDoorW.PrintWords Go.Proofs.YtocobalkikkhlaaDoorW.PrintLast Go.Proofs.YtocobalkikkhlaaDoorW.PrintMore

theorem awake200 : intrusionlaw17_awake.f 200 = some true := by decide +kernel
theorem awake17_is (k : Nat) (hk : 200 ≤ k) : intrusionlaw17_awake.f k = some true := at_rounds intrusionlaw17_awake.mono hk awake200
/-- Whether an address is one. -/
def okAddr (v6 : Bool) (hi lo : Int) : Prop := v6 = true ∨ (hi = 0 ∧ lo < 4294967296)
instance (v6 : Bool) (hi lo : Int) : Decidable (okAddr v6 hi lo) := by unfold okAddr; infer_instance
/-- Two addresses that fit. -/
def okFit (v6 : Bool) (hi lo : Int) (w6 : Bool) (hj lp : Int) : Prop := okAddr v6 hi lo ∧ okAddr w6 hj lp ∧ v6 = w6
instance (v6 : Bool) (hi lo : Int) (w6 : Bool) (hj lp : Int) : Decidable (okFit v6 hi lo w6 hj lp) := by unfold okFit; infer_instance
theorem avalid_is (v6 : Bool) (hi lo : Int) : address_Valid.f v6 hi lo = some (decide (okAddr v6 hi lo)) := by
  unfold address_Valid.f okAddr
  by_cases h : v6 = true
  · simp [h]
  · by_cases h2 : hi = 0
    · rw [if_neg h, if_pos h2]
      congr 1
      apply decide_eq_decide.mpr
      constructor
      · intro h3; exact .inr ⟨h2, by omega⟩
      · rintro (h3 | h3)
        · exact absurd h3 h
        · omega
    · simp [h, h2]
theorem put2 (n : Int) (h0 : 0 ≤ n) (h1 : n < 65536) : putOf n 2 = strOfNums (beN 2 n) := by
  unfold putOf
  rw [if_pos ⟨by decide, by decide, h0, by simpa using h1⟩]
  rfl
abbrev DR := Bool × Int × Int × Bool × Int × Int × Int × Int × ByteArray × Int
def badD (e : Int) : DR := (false, 0, 0, false, 0, 0, 0, 0, (⟨#[]⟩ : ByteArray), e)
section
variable (v6 : Bool) (hi lo : Int) (w6 : Bool) (hj lp : Int)
def madeOf (pr : Int) (d : ByteArray) : DR := if (d.size : Int) > 65000 then badD 3 else (v6, hi, lo, w6, hj, lp, pr, 64, d, 0)
theorem related_is : tunnel_related.f v6 hi lo w6 hj lp = some (decide (okFit v6 hi lo w6 hj lp)) := by
  unfold tunnel_related.f
  rw [avalid_is, avalid_is]
  simp only [bs, decide_eq_true_eq]
  by_cases a : okAddr v6 hi lo
  · rw [if_pos a]
    by_cases b : okAddr w6 hj lp
    · rw [if_pos b]
      congr 1
      rw [Bool.eq_iff_iff, beq_iff_eq, decide_eq_true_iff]
      exact ⟨fun z => (⟨a, b, z⟩ : okFit v6 hi lo w6 hj lp), fun z => z.2.2⟩
    · rw [if_neg b, decide_eq_false (fun z : okFit v6 hi lo w6 hj lp => b z.2.1)]
  · rw [if_neg a, decide_eq_false (fun z : okFit v6 hi lo w6 hj lp => a z.1)]
theorem wrapped_is (pr : Int) (d : ByteArray) : tunnel_wrapped.f v6 hi lo w6 hj lp pr d = some (madeOf v6 hi lo w6 hj lp pr d) := by
  unfold tunnel_wrapped.f madeOf
  split <;> rfl
theorem dr_eta (t : DR) : some (t.1, t.2.1, t.2.2.1, t.2.2.2.1, t.2.2.2.2.1, t.2.2.2.2.2.1, t.2.2.2.2.2.2.1, t.2.2.2.2.2.2.2.1, t.2.2.2.2.2.2.2.2.1, t.2.2.2.2.2.2.2.2.2) = some t := rfl
end
theorem put4 (n : Int) (h0 : 0 ≤ n) (h1 : n < 4294967296) : putOf n 4 = strOfNums (beN 4 n) := by
  unfold putOf
  rw [if_pos ⟨by decide, by decide, h0, by simpa using h1⟩]
  rfl
theorem z2s : (⟨#[0, 0]⟩ : ByteArray) = strOfNums [0, 0] := by decide +kernel
theorem z4s : (⟨#[0, 0, 0, 0]⟩ : ByteArray) = strOfNums [0, 0, 0, 0] := by decide +kernel
def typOf (kind : Int) : Int := if kind = 1 then 2048 else if kind = 2 then 34525 else 25944
theorem typ_rd (kind : Int) (h1 : 1 ≤ kind) (h3 : kind ≤ 3) : rd ([0, 2048, 34525, 25944] : List Int) kind = typOf kind := by
  have : kind = 1 ∨ kind = 2 ∨ kind = 3 := by omega
  rcases this with rfl | rfl | rfl <;> rfl
theorem typ_range (kind : Int) : 0 ≤ typOf kind ∧ typOf kind < 65536 := by unfold typOf; split; omega; split <;> omega
/-- The bytes behind the flags and the type, with the checksum c (none: the empty list). -/
def greL (fl : Int) (kind : Int) (c : List Int) (key : Int) (s : ByteArray) : List Int := beN 2 fl ++ beN 2 (typOf kind) ++ c ++ beN 4 key ++ bytesOf s
def ckOf (kind key : Int) (s : ByteArray) : Int := sumOf (strOfNums (greL 40960 kind [0, 0, 0, 0] key s))
def greP (kind : Int) (s : ByteArray) (key : Int) (sum : Bool) : ByteArray :=
  strOfNums (if sum = true then greL 40960 kind (beN 2 (ckOf kind key s) ++ [0, 0]) key s else greL 8192 kind [] key s)
theorem ck_range (kind key : Int) (s : ByteArray) : 0 ≤ ckOf kind key s ∧ ckOf kind key s ≤ 65535 := sumOf_range _
theorem str_back (s : ByteArray) : strOfNums (bytesOf s) = s := bytesOf_inj (bytesOf_strOfNums _ (bytesOf_range s))
section
variable (v6 : Bool) (hi lo : Int) (w6 : Bool) (hj lp : Int)
def wgOf (kind : Int) (s : ByteArray) (key : Int) (sum : Bool) : DR :=
  if okFit v6 hi lo w6 hj lp then (if kind < 1 ∨ 3 < kind then badD 4 else madeOf v6 hi lo w6 hj lp 47 (greP kind s key sum)) else badD 13
theorem wrapGre_is (kind : Int) (s : ByteArray) (hs : s.size ≤ 1152921504606846976) (key : Int) (hk0 : 0 ≤ key) (hk1 : key < 4294967296) (sum : Bool) (k : Nat) (hk : s.size + 100 ≤ k) :
    tunnel_WrapGre.f k v6 hi lo w6 hj lp kind s key sum = some (wgOf v6 hi lo w6 hj lp kind s key sum) := by
  obtain ⟨q, rfl⟩ : ∃ q, k = q + 1 := ⟨k - 1, by omega⟩
  unfold tunnel_WrapGre.f wgOf
  rw [related_is]
  simp only [bs, decide_eq_true_eq]
  by_cases f : okFit v6 hi lo w6 hj lp
  · rw [if_pos f, if_pos f]
    by_cases a : kind < 1
    · rw [if_pos a, if_pos (.inl a), tunnel_WrapGre.j0, if_pos rfl]
      rfl
    · rw [if_neg a]
      by_cases b : kind > 3
      · rw [decide_eq_true b, if_pos (show kind < 1 ∨ 3 < kind from .inr b), tunnel_WrapGre.j0, if_pos rfl]
        rfl
      · have tr := typ_range kind
        have cr := ck_range kind key s
        have L2 : ∀ x : Int, (strOfNums (beN 2 x)).size = 2 := fun x => by rw [strOfNums_size, beN_length]
        have L4 : ∀ x : Int, (strOfNums (beN 4 x)).size = 4 := fun x => by rw [strOfNums_size, beN_length]
        have zs : ∀ l : List Int, (strOfNums l).size = l.length := strOfNums_size
        rw [decide_eq_false b, if_neg (show ¬ (kind < 1 ∨ 3 < kind) by omega), tunnel_WrapGre.j0, if_neg (by decide), if_pos (by omega), if_pos (by omega), w64 (n := key) (by omega) (by omega), put_is key 4 q (by omega), put4 key hk0 hk1, typ_rd kind (by omega) (by omega)]
        simp only [bs]
        rw [if_pos (by rw [L4]; omega)]
        unfold greP
        cases sum with
        | true =>
          rw [if_pos rfl, if_pos rfl, put_is 40960 2 q (by omega), put2 40960 (by omega) (by omega)]
          simp only [bs]
          rw [put_is (typOf kind) 2 q (by omega), put2 _ tr.1 tr.2]
          simp only [bs]
          have eX : strOfNums (beN 2 40960) ++ strOfNums (beN 2 (typOf kind)) ++ (⟨#[0, 0, 0, 0]⟩ : ByteArray) ++ (strOfNums (beN 4 key) ++ s) = strOfNums (greL 40960 kind [0, 0, 0, 0] key s) := by
            unfold greL
            rw [z4s, strOfNums_append, strOfNums_append, strOfNums_append, strOfNums_append, str_back]
            apply bytesOf_inj
            simp only [bytesOf_append, List.append_assoc]
          have zX : (strOfNums (greL 40960 kind [0, 0, 0, 0] key s)).size = 12 + s.size := by
            rw [zs]; unfold greL; have := bytesOf_length s; simp [beN_length]; omega
          rw [if_pos (by rw [L2, L2]; omega), if_pos (by rw [size_append, L2, L2]; omega), if_pos (by rw [size_append, size_append, size_append, L2, L2, L4, z4s, zs]; simp; omega), eX, sum_is _ (by omega) q (by omega)]
          simp only [bs]
          rw [show sumOf (strOfNums (greL 40960 kind [0, 0, 0, 0] key s)) = ckOf kind key s from rfl, put_is (ckOf kind key s) 2 q (by omega), put2 _ cr.1 (by omega)]
          simp only [bs]
          have eY : strOfNums (beN 2 40960) ++ strOfNums (beN 2 (typOf kind)) ++ strOfNums (beN 2 (ckOf kind key s)) ++ (⟨#[0, 0]⟩ : ByteArray) ++ (strOfNums (beN 4 key) ++ s) = strOfNums (greL 40960 kind (beN 2 (ckOf kind key s) ++ [0, 0]) key s) := by
            unfold greL
            rw [z2s, strOfNums_append, strOfNums_append, strOfNums_append, strOfNums_append, strOfNums_append, str_back]
            apply bytesOf_inj
            simp only [bytesOf_append, List.append_assoc]
          rw [if_pos (by rw [size_append, L2, L2, L2]; omega), if_pos (by rw [size_append, size_append, L2, L2, L2]; omega), if_pos (by rw [size_append, size_append, size_append, size_append, L2, L2, L2, L4, z2s, zs]; simp; omega), eY, wrapped_is]
          simp only [bs]
        | false =>
          rw [if_neg (by decide), if_neg (by decide), put_is 8192 2 q (by omega), put2 8192 (by omega) (by omega)]
          simp only [bs]
          rw [put_is (typOf kind) 2 q (by omega), put2 _ tr.1 tr.2]
          simp only [bs]
          have eY : strOfNums (beN 2 8192) ++ strOfNums (beN 2 (typOf kind)) ++ (strOfNums (beN 4 key) ++ s) = strOfNums (greL 8192 kind [] key s) := by
            unfold greL
            rw [List.append_nil, strOfNums_append, strOfNums_append, strOfNums_append, str_back]
            apply bytesOf_inj
            simp only [bytesOf_append, List.append_assoc]
          rw [if_pos (by rw [L2, L2]; omega), if_pos (by rw [size_append, size_append, L2, L2, L4]; omega), eY, wrapped_is]
          simp only [bs]
  · rw [if_neg f, if_neg f]
    rfl
end
end Go.Proofs.YtocobalkikkhlaaDoor.Pure

/-! ### Reader -/
namespace Go.Proofs.YtocobalkikkhlaaDoor.Pure
open Go.RowKit Go.Proofs.YtocobalkikkhlaaDoor.X Go.Proofs.YtocobalkikkhlaaDoorW.PrintWords Go.Proofs.YtocobalkikkhlaaDoorW.PrintLast Go.Proofs.YtocobalkikkhlaaDoorW.PrintMore

theorem nil_size : (⟨#[]⟩ : ByteArray).size = 0 := rfl
/-- What 'next' returns, with permission. -/
theorem next_is (s : ByteArray) (i : Nat) (e n : Int) (hs : s.size ≤ 4611686018427387904) (hi : i ≤ s.size) (hn : 0 ≤ n) (hn2 : n ≤ 9223372036854775807) :
    field_Reader_next.f s (i : Int) e n true = some (if e = 0 then (if n > (s.size : Int) - i then ((⟨#[]⟩ : ByteArray), s, (i : Int), 1) else (s.extract i (i + n.toNat), s, (i : Int) + n, 0)) else ((⟨#[]⟩ : ByteArray), s, (i : Int), e)) := by
  unfold field_Reader_next.f
  by_cases h : e = 0
  · subst h
    rw [if_pos rfl, if_pos rfl, if_pos rfl, w64 (n := (s.size : Int) - i) (by omega) (by omega)]
    by_cases h2 : n > (s.size : Int) - i
    · rw [if_pos h2, if_pos h2]
    · rw [if_neg h2, if_neg h2, w64 (n := (i : Int) + n) (by omega) (by omega), w64 (n := (i : Int) + n - n) (by omega) (by omega), if_pos (by omega), if_pos (by omega), if_pos (by omega)]
      rw [show ((i : Int) + n - n).toNat = i by omega, show ((i : Int) + n).toNat = i + n.toNat by omega]
  · rw [if_neg h, if_neg h]
theorem cut_append (s : ByteArray) (i j : Nat) (h : i ≤ j) : s.extract 0 i ++ s.extract i j = s.extract 0 j := by
  apply bytesOf_inj
  rw [bytesOf_append, bytesOf_extract, bytesOf_extract, bytesOf_extract]
  simp only [List.drop_zero, Nat.sub_zero]
  rw [← List.take_append_drop i (List.take j (bytesOf s)), List.take_take, List.drop_take, Nat.min_eq_left h]
theorem put_val (l : ByteArray) (n : Nat) (h1 : 1 ≤ n) (h7 : n ≤ 7) (hl : l.size = n) : putOf (valBE (bytesOf l)) n = l := by
  have hb := bytesOf_length l
  have hr := valBE_range _ (bytesOf_range l)
  have hv := beN_valBE _ (bytesOf_range l)
  rw [hb, hl] at hr hv
  apply bytesOf_inj
  rw [putOf_size _ _ (by omega) (by omega) hr.1 (by simpa using hr.2), Int.toNat_natCast, hv]

theorem int_is (s : ByteArray) (i n : Nat) (e : Int) (k : Nat) (hs : s.size ≤ 4611686018427387904) (hi : i ≤ s.size) (h1 : 1 ≤ n) (h7 : n ≤ 7) (hk : 8 ≤ k) :
    field_Reader_Int.f k s (i : Int) e (n : Int) = some (if e = 0 then (if s.size < i + n then (0, s, (i : Int), 1) else (valBE (bytesOf (s.extract i (i + n))), s, ((i + n : Nat) : Int), 0)) else (0, s, (i : Int), e)) := by
  unfold field_Reader_Int.f field_valid.f
  rw [if_pos (show (n : Int) ≥ 1 by omega), decide_eq_true (show (n : Int) ≤ 7 by omega)]
  simp only [bs]
  rw [next_is s i e _ hs hi (by omega) (by omega)]
  have z : field_number.f k (bytesOf (⟨#[]⟩ : ByteArray)) = some 0 := by rw [number_is _ (bytesOf_range _) (by decide) _ hk]; rfl
  by_cases h : e = 0
  · rw [if_pos h, if_pos h]
    by_cases h2 : (n : Int) > (s.size : Int) - i
    · rw [if_pos h2, if_pos (by omega)]
      simp only [bs, z, nil_size]
      rfl
    · rw [if_neg h2, if_neg (by omega)]
      have z2 : (s.extract i (i + n)).size = n := by simp; omega
      have hb := bytesOf_length (s.extract i (i + n))
      simp only [bs, Int.toNat_natCast]
      rw [if_pos (by omega), number_is _ (bytesOf_range _) (by omega) _ hk]
      simp only [bs]
      rw [show (i : Int) + (n : Int) = ((i + n : Nat) : Int) by omega]
  · rw [if_neg h, if_neg h]
    simp only [bs, z, nil_size]
    rfl
end Go.Proofs.YtocobalkikkhlaaDoor.Pure

/-! ### ReaderLeft -/
namespace Go.Proofs.YtocobalkikkhlaaDoor.Pure
open Go.RowKit Go.Proofs.YtocobalkikkhlaaDoor.X Go.Proofs.YtocobalkikkhlaaDoorW.PrintWords Go.Proofs.YtocobalkikkhlaaDoorW.PrintLast Go.Proofs.YtocobalkikkhlaaDoorW.PrintMore

theorem left_is (s : ByteArray) (i : Nat) (e : Int) (hs : s.size ≤ 4611686018427387904) (hi : i ≤ s.size) : field_Reader_Left.f s (i : Int) e = some ((s.size : Int) - i, s, (i : Int), e) := by
  unfold field_Reader_Left.f
  rw [w64 (n := (s.size : Int) - i) (by omega) (by omega)]
end Go.Proofs.YtocobalkikkhlaaDoor.Pure

/-! ### TunI -/
set_option linter.unusedVariables false
set_option linter.unusedSimpArgs false
namespace Go.Proofs.YtocobalkikkhlaaDoor.Pure
open Go.RowKit Go.Proofs.YtocobalkikkhlaaDoor.X Go.Proofs.YtocobalkikkhlaaDoorW.PrintWords Go.Proofs.YtocobalkikkhlaaDoorW.PrintLast Go.Proofs.YtocobalkikkhlaaDoorW.PrintMore

def W (s : ByteArray) (i : Nat) : Int := valBE (bytesOf (s.extract i (i + 2)))
theorem W_range (s : ByteArray) (i : Nat) (h : i + 2 ≤ s.size) : 0 ≤ W s i ∧ W s i < 65536 := by
  have hr := valBE_range _ (bytesOf_range (s.extract i (i + 2)))
  have hb := bytesOf_length (s.extract i (i + 2))
  have hz : (s.extract i (i + 2)).size = 2 := by simp; omega
  rw [hb, hz] at hr
  exact hr
theorem int2 (s : ByteArray) (i : Nat) (k : Nat) (hs : s.size ≤ 1099511627776) (hi : i + 2 ≤ s.size) (hk : 8 ≤ k) : field_Reader_Int.f k s (i : Int) 0 2 = some (W s i, s, ((i + 2 : Nat) : Int), 0) := by
  have h := int_is s i 2 0 k (by omega) (by omega) (by omega) (by omega) hk
  rw [show (((2 : Nat)) : Int) = 2 from rfl, if_pos rfl, if_neg (by omega)] at h
  exact h
theorem andNot_and (x : Int) (h0 : 0 ≤ x) (h1 : x < 65536) : Go.bits .andNot .i64 x 45056 = Go.bits .and .i64 x 20479 := by
  obtain ⟨i, rfl⟩ := Int.eq_ofNat_of_zero_le h0
  show IntKind.i64.wrap ((BitVec.ofInt 64 (i : Int) &&& ~~~BitVec.ofInt 64 ((45056 : Nat) : Int)).toNat : Int) = IntKind.i64.wrap ((BitVec.ofInt 64 (i : Int) &&& BitVec.ofInt 64 ((20479 : Nat) : Int)).toNat : Int)
  rw [BitVec.toNat_and, BitVec.toNat_and, BitVec.toNat_not, ofInt_u64 i (by omega), ofInt_u64 45056 (by omega), ofInt_u64 20479 (by omega)]
  have key : ∀ m : Nat, i &&& m = i &&& (m % 2 ^ 16) := by
    intro m
    have e1 : (i &&& m) % 2 ^ 16 = i &&& m := Nat.mod_eq_of_lt (Nat.lt_of_le_of_lt Nat.and_le_left (by omega))
    rw [← e1, Nat.and_mod_two_pow, Nat.mod_eq_of_lt (show i < 2 ^ 16 by omega)]
  rw [key (2 ^ 64 - 1 - 45056)]
def kdOf (n : Int) : Int := if n = 2048 then 1 else if n = 34525 then 2 else if n = 25944 then 3 else 0
theorem kind_is (n : Int) : tunnel_kindOf.f n = some (kdOf n) := by
  unfold tunnel_kindOf.f kdOf
  split
  · rfl
  · split
    · rfl
    · split <;> rfl
def nOf (fl : Int) : Nat := 4 + (if Go.bits .and .i64 fl 32768 = 0 then 0 else 4) + (if Go.bits .and .i64 fl 8192 = 0 then 0 else 4) + (if Go.bits .and .i64 fl 4096 = 0 then 0 else 4)
/-- What gre answers. -/
def greOf (s : ByteArray) : Int × ByteArray × Int :=
  if s.size < 4 then (0, ⟨#[]⟩, 1)
  else if Go.bits .and .i64 (W s 0) 20479 ≠ 0 ∨ kdOf (W s 2) = 0 then (0, ⟨#[]⟩, 2)
  else if s.size < nOf (W s 0) then (0, ⟨#[]⟩, 1)
  else if Go.bits .and .i64 (W s 0) 32768 ≠ 0 ∧ sumOf s ≠ 0 then (0, ⟨#[]⟩, 8)
  else (kdOf (W s 2), s.extract (nOf (W s 0)) s.size, 0)
/-- Four bytes more are taken, unless b. -/
def adv (s : ByteArray) (b : Prop) [Decidable b] (st : Nat × Int) : Nat × Int := if b then st else if st.2 = 0 then (if s.size < st.1 + 4 then (st.1, 1) else (st.1 + 4, 0)) else st
theorem adv_le (s : ByteArray) (b : Prop) [Decidable b] (st : Nat × Int) (h : st.1 ≤ s.size) : (adv s b st).1 ≤ s.size := by
  unfold adv
  split
  · exact h
  · split
    · split
      · exact h
      · show st.1 + 4 ≤ s.size; omega
    · exact h
theorem take_st (s : ByteArray) (hs : s.size ≤ 1099511627776) (st : Nat × Int) (h : st.1 ≤ s.size) : ∃ x, field_Reader_Take.f s (st.1 : Int) st.2 4 = some (x, s, (((adv s False st).1 : Nat) : Int), (adv s False st).2) := by
  unfold field_Reader_Take.f adv
  rw [show decide ((4 : Int) ≥ 0) = true from rfl, next_is s st.1 st.2 4 (by omega) h (by omega) (by omega), if_neg (show ¬ False from id)]
  by_cases h0 : st.2 = 0
  · rw [if_pos h0, if_pos h0]
    by_cases h1 : (4 : Int) > (s.size : Int) - st.1
    · rw [if_pos h1, if_pos (by omega)]
      exact ⟨_, rfl⟩
    · rw [if_neg h1, if_neg (by omega)]
      refine ⟨s.extract st.1 (st.1 + Int.toNat 4), ?_⟩
      simp only [bs]
      rw [show (st.1 : Int) + 4 = ((st.1 + 4 : Nat) : Int) by omega]
  · rw [if_neg h0, if_neg h0]
    exact ⟨_, rfl⟩
theorem adv_all (s : ByteArray) (h4 : 4 ≤ s.size) (c1 c2 c3 : Prop) [Decidable c1] [Decidable c2] [Decidable c3] :
    (s.size < 4 + (if c1 then 0 else 4) + (if c2 then 0 else 4) + (if c3 then 0 else 4) → (adv s c3 (adv s c2 (adv s c1 (4, 0)))).2 = 1) ∧
    (¬ s.size < 4 + (if c1 then 0 else 4) + (if c2 then 0 else 4) + (if c3 then 0 else 4) → adv s c3 (adv s c2 (adv s c1 (4, 0))) = (4 + (if c1 then 0 else 4) + (if c2 then 0 else 4) + (if c3 then 0 else 4), 0)) := by
  by_cases h1 : c1 <;> by_cases h2 : c2 <;> by_cases h3 : c3 <;> simp only [h1, h2, h3, if_true, if_false, adv] <;> constructor <;> intro h <;> (repeat' split) <;> first | rfl | omega | simp_all | (simp_all; omega)
section
variable (a0 : Bool) (a1 a2 : Int) (a3 : Bool) (a4 a5 a6 a7 : Int) (s : ByteArray)
theorem rest_is (hs : s.size ≤ 1099511627776) (i : Nat) (h : i ≤ s.size) : field_Reader_Rest.f s (i : Int) 0 = some (s.extract i s.size, s, (s.size : Int), 0) := by
  unfold field_Reader_Rest.f
  rw [left_is s i 0 (by omega) h]
  simp only [bs]
  rw [next_is s i 0 _ (by omega) h (by omega) (by omega), if_pos rfl, if_neg (by omega)]
  simp only [bs]
  rw [show i + ((s.size : Int) - (i : Int)).toNat = s.size by omega, show (i : Int) + ((s.size : Int) - (i : Int)) = (s.size : Int) by omega]
theorem gre_end (hs : s.size ≤ 1099511627776) (fl kd : Int) (st : Nat × Int) (h : st.1 ≤ s.size) (k : Nat) (hk : s.size + 10 ≤ k) :
    tunnel_gre.l0 (k + 1) fl kd [32768, 8192, 4096] 3 3 a0 a1 a2 a3 a4 a5 a6 a7 s s (st.1 : Int) st.2
      = some (if st.2 = 0 then (if Go.bits .and .i64 fl 32768 ≠ 0 ∧ sumOf s ≠ 0 then (0, ⟨#[]⟩, 8) else (kd, s.extract st.1 s.size, 0)) else (0, ⟨#[]⟩, st.2)) := by
  rw [tunnel_gre.l0, if_neg (by decide)]
  unfold field_Reader_Err.f
  simp only [bs]
  by_cases h0 : st.2 = 0
  · rw [if_pos h0, if_pos h0, h0, rest_is s hs st.1 h]
    by_cases h1 : Go.bits .and .i64 fl 32768 = 0
    · rw [if_pos h1, if_neg (fun z => z.1 h1)]
      simp only [bs]
    · rw [if_neg h1, sum_is s (by omega) k (by omega)]
      simp only [bs]
      by_cases h2 : sumOf s = 0
      · rw [if_pos h2, if_neg (fun z => z.2 h2)]
      · rw [if_neg h2, if_pos ⟨h1, h2⟩]
  · rw [if_neg h0, if_neg h0]
theorem gre_step (hs : s.size ≤ 1099511627776) (fl kd f : Int) (j : Nat) (hj : j < 3) (hf : rd [32768, 8192, 4096] (j : Int) = f) (st : Nat × Int) (h : st.1 ≤ s.size) (k : Nat) :
    tunnel_gre.l0 (k + 1) fl kd [32768, 8192, 4096] 3 (j : Int) a0 a1 a2 a3 a4 a5 a6 a7 s s (st.1 : Int) st.2
      = tunnel_gre.l0 k fl kd [32768, 8192, 4096] 3 ((j + 1 : Nat) : Int) a0 a1 a2 a3 a4 a5 a6 a7 s s (((adv s (Go.bits .and .i64 fl f = 0) st).1 : Nat) : Int) (adv s (Go.bits .and .i64 fl f = 0) st).2 := by
  have e1 : (j : Int) < 3 := by omega
  have e2 : (0 : Int) ≤ (j : Int) := by omega
  have e3 : (j : Int) < (([32768, 8192, 4096] : List Int).length : Int) := by simp; omega
  rw [tunnel_gre.l0, if_pos e1, if_pos e2, if_pos e3, hf, w64 (n := (j : Int) + 1) (by omega) (by omega), show (j : Int) + 1 = ((j + 1 : Nat) : Int) by omega]
  by_cases h1 : Go.bits .and .i64 fl f = 0
  · rw [if_pos h1]
    unfold adv
    rw [if_pos h1]
  · obtain ⟨x, hx⟩ := take_st s hs st h
    rw [if_neg h1, hx]
    simp only [bs]
    unfold adv
    rw [if_neg h1, if_neg (show ¬ False from id)]
theorem gre_is (hs : s.size ≤ 1099511627776) (k : Nat) (hk : s.size + 60 ≤ k) : tunnel_gre.f k a0 a1 a2 a3 a4 a5 a6 a7 s = some (greOf s) := by
  obtain ⟨q, rfl⟩ : ∃ q, k = (q + 1 + 1 + 1 + 1) + 1 := ⟨k - 5, by omega⟩
  unfold tunnel_gre.f greOf field_NewReader.f field_Reader_Err.f
  simp only [bs]
  by_cases h4 : s.size < 4
  · rw [if_pos h4]
    have i0 := int_is s 0 2 0 (q + 1 + 1 + 1 + 1 + 1) (by omega) (by omega) (by omega) (by omega) (by omega)
    rw [show ((0 : Nat) : Int) = 0 from rfl, show ((2 : Nat) : Int) = 2 from rfl, if_pos rfl] at i0
    rw [i0]
    by_cases h2 : s.size < 0 + 2
    · rw [if_pos h2]
      simp only [bs]
      have i1 := int_is s 0 2 1 (q + 1 + 1 + 1 + 1 + 1) (by omega) (by omega) (by omega) (by omega) (by omega)
      rw [show ((0 : Nat) : Int) = 0 from rfl, show ((2 : Nat) : Int) = 2 from rfl, if_neg (by decide)] at i1
      rw [i1]
      simp only [bs]
      rw [kind_is]
      simp only [bs]
      rw [if_neg (by decide)]
    · rw [if_neg h2]
      simp only [bs]
      have i1 := int_is s 2 2 0 (q + 1 + 1 + 1 + 1 + 1) (by omega) (by omega) (by omega) (by omega) (by omega)
      rw [show ((2 : Nat) : Int) = 2 from rfl, if_pos rfl, if_pos (by omega)] at i1
      rw [i1]
      simp only [bs]
      rw [kind_is]
      simp only [bs]
      rw [if_neg (by decide)]
  · rw [if_neg h4]
    have i0 := int2 s 0 (q + 1 + 1 + 1 + 1 + 1) hs (by omega) (by omega)
    have i2 := int2 s 2 (q + 1 + 1 + 1 + 1 + 1) hs (by omega) (by omega)
    rw [show ((0 : Nat) : Int) = 0 from rfl, show ((0 + 2 : Nat) : Int) = 2 from rfl] at i0
    rw [show ((2 : Nat) : Int) = 2 from rfl, show ((2 + 2 : Nat) : Int) = ((4 : Nat) : Int) from rfl] at i2
    have w0 := W_range s 0 (by omega)
    rw [i0]
    simp only [bs]
    rw [i2]
    simp only [bs]
    rw [kind_is]
    simp only [bs, if_true]
    rw [andNot_and _ w0.1 w0.2]
    have hj : (if Go.bits .and .i64 (W s 0) 20479 = 0 then tunnel_gre.j0 (q + 1 + 1 + 1 + 1 + 1) (W s 0) (kdOf (W s 2)) (kdOf (W s 2) == 0) a0 a1 a2 a3 a4 a5 a6 a7 s s ((4 : Nat) : Int) 0 else tunnel_gre.j0 (q + 1 + 1 + 1 + 1 + 1) (W s 0) (kdOf (W s 2)) true a0 a1 a2 a3 a4 a5 a6 a7 s s ((4 : Nat) : Int) 0)
        = tunnel_gre.j0 (q + 1 + 1 + 1 + 1 + 1) (W s 0) (kdOf (W s 2)) (decide (Go.bits .and .i64 (W s 0) 20479 ≠ 0 ∨ kdOf (W s 2) = 0)) a0 a1 a2 a3 a4 a5 a6 a7 s s ((4 : Nat) : Int) 0 := by
      by_cases c : Go.bits .and .i64 (W s 0) 20479 = 0
      · rw [if_pos c]
        congr 1
        by_cases d : kdOf (W s 2) = 0
        · rw [decide_eq_true (.inr d), beq_iff_eq.mpr d]
        · rw [decide_eq_false (fun z => z.elim (fun y => y c) d), beq_eq_false_iff_ne.mpr d]
      · rw [if_neg c, decide_eq_true (.inl c)]
    rw [hj, tunnel_gre.j0]
    by_cases hb : Go.bits .and .i64 (W s 0) 20479 ≠ 0 ∨ kdOf (W s 2) = 0
    · rw [if_pos (decide_eq_true hb), if_pos hb]
    · rw [if_neg (by rw [decide_eq_true_iff]; exact hb), if_neg hb]
      simp only [bs]
      have s0 := gre_step a0 a1 a2 a3 a4 a5 a6 a7 s hs (W s 0) (kdOf (W s 2)) 32768 0 (by omega) rfl (4, 0) (by show 4 ≤ s.size; omega) (q + 1 + 1 + 1)
      have l1 := adv_le s (Go.bits .and .i64 (W s 0) 32768 = 0) (4, 0) (by show 4 ≤ s.size; omega)
      have s1 := gre_step a0 a1 a2 a3 a4 a5 a6 a7 s hs (W s 0) (kdOf (W s 2)) 8192 1 (by omega) rfl (adv s (Go.bits .and .i64 (W s 0) 32768 = 0) (4, 0)) l1 (q + 1 + 1)
      have l2 := adv_le s (Go.bits .and .i64 (W s 0) 8192 = 0) _ l1
      have s2 := gre_step a0 a1 a2 a3 a4 a5 a6 a7 s hs (W s 0) (kdOf (W s 2)) 4096 2 (by omega) rfl (adv s (Go.bits .and .i64 (W s 0) 8192 = 0) (adv s (Go.bits .and .i64 (W s 0) 32768 = 0) (4, 0))) l2 (q + 1)
      have l3 := adv_le s (Go.bits .and .i64 (W s 0) 4096 = 0) _ l2
      have s3 := gre_end a0 a1 a2 a3 a4 a5 a6 a7 s hs (W s 0) (kdOf (W s 2)) _ l3 q (by omega)
      rw [show ((0 + 1 : Nat) : Int) = ((1 : Nat) : Int) from rfl] at s0
      rw [show ((1 + 1 : Nat) : Int) = ((2 : Nat) : Int) from rfl] at s1
      rw [show ((2 + 1 : Nat) : Int) = 3 from rfl] at s2
      have hlen : ((([32768, 8192, 4096] : List Int).length : Nat) : Int) = 3 := rfl
      rw [hlen, show (0 : Int) = ((0 : Nat) : Int) from rfl]
      refine (s0.trans (s1.trans (s2.trans s3))).trans ?_
      have A := adv_all s (by omega) (Go.bits .and .i64 (W s 0) 32768 = 0) (Go.bits .and .i64 (W s 0) 8192 = 0) (Go.bits .and .i64 (W s 0) 4096 = 0)
      by_cases hn : s.size < nOf (W s 0)
      · have e := A.1 hn
        rw [if_pos hn, e, if_neg (by decide)]
        rfl
      · have e := A.2 hn
        rw [if_neg hn, e, if_pos rfl]
        rfl
end
def plOf (v kind : Int) (s : ByteArray) : Int × ByteArray × Int := if s.size = 0 then (0, ⟨#[]⟩, 1) else if bt s 0 / 16 = v then (kind, s, 0) else (0, ⟨#[]⟩, 2)
theorem toList_data (s : ByteArray) : s.toList = s.data.toList := ByteArray.toList_eq s
theorem toList_nil (s : ByteArray) : s.toList = ([] : List UInt8) ↔ s.size = 0 := by
  rw [toList_data]
  constructor
  · intro h
    show s.data.size = 0
    rw [← Array.length_toList, h]
    rfl
  · intro h
    exact List.eq_nil_of_length_eq_zero (by rw [Array.length_toList]; exact h)
theorem plO_is (v kind : Int) (s : ByteArray) : plO v kind s = some (plOf v kind s) := by
  unfold plO plOf
  by_cases h : s.size = 0
  · rw [if_pos ((toList_nil s).mpr h), if_pos h]
  · rw [if_neg (fun z => h ((toList_nil s).mp z)), if_neg h, if_pos (by omega)]
    split <;> rfl
def inOf (pr : Int) (s : ByteArray) : Option (Int × ByteArray × Int) := if 4 = pr then some (plOf 4 1 s) else if 41 = pr then some (plOf 6 2 s) else if 47 = pr then some (greOf s) else none
theorem innerIp_is (v6 : Bool) (hi lo : Int) (w6 : Bool) (hj lp : Int) (pr tt : Int) (s : ByteArray) (hs : s.size ≤ 1099511627776) (k : Nat) (hk : s.size + 100 ≤ k) :
    tunnel_Inner.f k v6 hi lo w6 hj lp pr tt s = inOf pr s := by
  unfold tunnel_Inner.f inOf
  rw [plO_is, plO_is, gre_is v6 hi lo w6 hj lp pr tt s hs k (by omega)]
section
variable (v6 : Bool) (hi lo : Int) (w6 : Bool) (hj lp : Int)
def wiOf (s : ByteArray) : DR :=
  if okFit v6 hi lo w6 hj lp then (if s.size = 0 then badD 2 else if bt s 0 / 16 = 4 then madeOf v6 hi lo w6 hj lp 4 s else if bt s 0 / 16 = 6 then madeOf v6 hi lo w6 hj lp 41 s else badD 2) else badD 13
theorem wrapIp_is (s : ByteArray) (k : Nat) (hk : 5 ≤ k) : tunnel_WrapIp.f k v6 hi lo w6 hj lp s = some (wiOf v6 hi lo w6 hj lp s) := by
  obtain ⟨q, rfl⟩ : ∃ q, k = q + 1 := ⟨k - 1, by omega⟩
  unfold tunnel_WrapIp.f wiOf
  have hj0 : ∀ n : Int, tunnel_WrapIp.j0 (q + 1) s n v6 hi lo w6 hj lp = some (if n = 4 then madeOf v6 hi lo w6 hj lp 4 s else if n = 6 then madeOf v6 hi lo w6 hj lp 41 s else badD 2) := by
    intro n
    rw [tunnel_WrapIp.j0]
    by_cases a : n = 4
    · rw [if_pos a, if_pos a, wrapped_is]
      simp only [bs]
    · rw [if_neg a, if_neg a]
      by_cases b : n = 6
      · rw [if_pos b, if_pos b, wrapped_is]
        simp only [bs]
      · rw [if_neg b, if_neg b]
        rfl
  rw [related_is]
  simp only [bs, decide_eq_true_eq]
  by_cases f : okFit v6 hi lo w6 hj lp
  · rw [if_pos f, if_pos f]
    by_cases z : s.size = 0
    · rw [if_pos ((toList_nil s).mpr z), if_pos z, hj0, if_neg (by decide), if_neg (by decide)]
    · rw [if_neg (fun y => z ((toList_nil s).mp y)), if_neg z, if_pos (by omega), hj0]
  · rw [if_neg f, if_neg f]
    rfl
end
theorem piece17 (s : ByteArray) (a b r : List Int) (h : bytesOf s = a ++ (b ++ r)) (i j : Nat) (hi : a.length = i) (hj : i + b.length = j) : bytesOf (s.extract i j) = b := by
  rw [bytesOf_extract, h, List.drop_left' hi, List.take_left' (by omega)]
theorem val217 (n : Int) (h0 : 0 ≤ n) (h1 : n < 65536) : valBE (beN 2 n) = n := by
  rw [valBE_beN 2 n h0]; exact Int.emod_eq_of_lt h0 (by simpa using h1)
theorem kd_typ (kind : Int) (h1 : 1 ≤ kind) (h3 : kind ≤ 3) : kdOf (typOf kind) = kind := by
  have : kind = 1 ∨ kind = 2 ∨ kind = 3 := by omega
  rcases this with rfl | rfl | rfl <;> rfl
theorem greL_range (fl kind : Int) (c : List Int) (hc : ∀ x ∈ c, 0 ≤ x ∧ x < 256) (key : Int) (s : ByteArray) : ∀ x ∈ greL fl kind c key s, 0 ≤ x ∧ x < 256 := by
  intro x hx
  unfold greL at hx
  simp only [List.mem_append] at hx
  rcases hx with (((hx | hx) | hx) | hx) | hx
  · exact beN_range _ _ x hx
  · exact beN_range _ _ x hx
  · exact hc x hx
  · exact beN_range _ _ x hx
  · exact bytesOf_range _ x hx
theorem ckl_range (kind key : Int) (s : ByteArray) : ∀ x ∈ beN 2 (ckOf kind key s) ++ [0, 0], 0 ≤ x ∧ x < 256 := by
  intro x hx
  rcases List.mem_append.mp hx with hx | hx
  · exact beN_range _ _ x hx
  · simp at hx; omega
theorem zz_range : ∀ x ∈ ([0, 0, 0, 0] : List Int), 0 ≤ x ∧ x < 256 := by intro x hx; simp at hx; omega
theorem tot_two (n : Int) (h0 : 0 ≤ n) (h1 : n < 65536) : tot (beN 2 n) = n := by
  show n / 256 ^ 1 % 256 * 256 + n / 256 ^ 0 % 256 + 0 = n
  omega
/-- The sum of a string with its checksum is 0. -/
theorem sum_zero (kind key : Int) (s : ByteArray) : sumOf (strOfNums (greL 40960 kind (beN 2 (ckOf kind key s) ++ [0, 0]) key s)) = 0 := by
  have cr := ck_range kind key s
  have e1 : tot (greL 40960 kind (beN 2 (ckOf kind key s) ++ [0, 0]) key s) = tot (greL 40960 kind [0, 0, 0, 0] key s) + ckOf kind key s := by
    unfold greL
    have p : ∀ (c : List Int), c.length = 4 → tot (beN 2 40960 ++ beN 2 (typOf kind) ++ c ++ beN 4 key ++ bytesOf s) = tot (beN 2 40960) + tot (beN 2 (typOf kind)) + tot c + (tot (beN 4 key) + tot (bytesOf s)) := by
      intro c hc
      rw [List.append_assoc, tot_append _ _ (by simp [beN_length, hc]), tot_append _ _ (by simp [beN_length]), tot_append _ _ (by simp [beN_length]), tot_append (beN 4 key) _ (by simp [beN_length])]
    rw [p _ (by simp [beN_length]), p _ rfl, tot_append (beN 2 (ckOf kind key s)) _ (by simp [beN_length]), tot_two _ cr.1 (by omega)]
    show _ + _ + (ckOf kind key s + (0 * 256 + 0 + 0)) + _ = _ + _ + (0 * 256 + 0 + (0 * 256 + 0 + 0)) + _ + _
    omega
  have h0 := tot_nonneg _ (greL_range 40960 kind [0, 0, 0, 0] zz_range key s)
  have hb := bytesOf_strOfNums _ (greL_range 40960 kind (beN 2 (ckOf kind key s) ++ [0, 0]) (ckl_range kind key s) key s)
  have hb0 := bytesOf_strOfNums _ (greL_range 40960 kind [0, 0, 0, 0] zz_range key s)
  have ec : ckOf kind key s = 65535 - canon (tot (greL 40960 kind [0, 0, 0, 0] key s)) := by
    show 65535 - canon (tot (bytesOf (strOfNums (greL 40960 kind [0, 0, 0, 0] key s)))) = _
    rw [hb0]
  unfold sumOf
  rw [hb, e1, ec]
  unfold canon
  generalize tot (greL 40960 kind [0, 0, 0, 0] key s) = T at h0
  by_cases hT : T = 0
  · rw [if_pos hT, hT]; decide
  · rw [if_neg hT, if_neg (by omega)]; omega
theorem gre_back (kind : Int) (h1 : 1 ≤ kind) (h3 : kind ≤ 3) (s : ByteArray) (key : Int) (sum : Bool) : greOf (greP kind s key sum) = (kind, s, 0) := by
  have tr := typ_range kind
  have kt := kd_typ kind h1 h3
  have hls := bytesOf_length s
  have main : ∀ (fl : Int) (c : List Int), (∀ x ∈ c, 0 ≤ x ∧ x < 256) → 0 ≤ fl → fl < 65536 → Go.bits .and .i64 fl 20479 = 0 → nOf fl = 8 + c.length → (Go.bits .and .i64 fl 32768 ≠ 0 → sumOf (strOfNums (greL fl kind c key s)) = 0) → greOf (strOfNums (greL fl kind c key s)) = (kind, s, 0) := by
    intro fl c hc f0 f1 hf hn hz
    have hb := bytesOf_strOfNums _ (greL_range fl kind c hc key s)
    have hsz : (strOfNums (greL fl kind c key s)).size = 8 + c.length + s.size := by rw [strOfNums_size]; unfold greL; simp [beN_length]; omega
    generalize hd : strOfNums (greL fl kind c key s) = d at hb hsz hz
    have w0 : W d 0 = fl := by
      unfold W
      rw [piece17 d [] (beN 2 fl) (beN 2 (typOf kind) ++ c ++ beN 4 key ++ bytesOf s) (by rw [hb]; unfold greL; simp) 0 2 rfl (by rw [beN_length]), val217 _ f0 f1]
    have w2 : W d 2 = typOf kind := by
      unfold W
      rw [piece17 d (beN 2 fl) (beN 2 (typOf kind)) (c ++ beN 4 key ++ bytesOf s) (by rw [hb]; unfold greL; simp) 2 4 (beN_length _ _) (by rw [beN_length]), val217 _ tr.1 tr.2]
    have ee : d.extract (8 + c.length) d.size = s := by
      apply bytesOf_inj
      rw [piece17 d (beN 2 fl ++ beN 2 (typOf kind) ++ c ++ beN 4 key) (bytesOf s) [] (by rw [hb]; unfold greL; simp) (8 + c.length) d.size (by simp [beN_length]; omega) (by rw [hsz, hls])]
    unfold greOf
    rw [w0, w2, kt, hn, if_neg (by omega), if_neg (show ¬ (Go.bits .and .i64 fl 20479 ≠ 0 ∨ kind = 0) from fun z => z.elim (fun y => y hf) (fun y => by omega)), if_neg (by omega), if_neg (fun z => z.2 (hz z.1)), ee]
  unfold greP
  cases sum with
  | true =>
    rw [if_pos rfl]
    exact main 40960 _ (ckl_range kind key s) (by omega) (by omega) (by decide) (by simp [beN_length]; decide) (fun _ => sum_zero kind key s)
  | false =>
    rw [if_neg (by decide)]
    exact main 8192 [] (by simp) (by omega) (by omega) (by decide) (by decide) (fun z => absurd (by decide) z)
end Go.Proofs.YtocobalkikkhlaaDoor.Pure

/-! ### Ip06 -/
namespace Go.Proofs.YtocobalkikkhlaaDoor.Pure
open Go.RowKit Go.Proofs.YtocobalkikkhlaaDoor.X Go.Proofs.YtocobalkikkhlaaDoorW.PrintWords Go.Proofs.YtocobalkikkhlaaDoorW.PrintLast Go.Proofs.YtocobalkikkhlaaDoorW.PrintMore

theorem wu64 {n : Int} (h : 0 ≤ n) (h' : n < 18446744073709551616) : IntKind.u64.wrap n = n := u64_wrap_id n h h'
theorem or8u (x b : Int) (h0 : 0 ≤ x) (h1 : x < 18446744073709551616) (hx : x % 256 = 0) (hb0 : 0 ≤ b) (hb : b < 256) : Go.bits .or .u64 x b = x + b :=
  bits_join .u64 64 (by decide) (fun n h h' => wu64 h (by omega)) 8 x b h0 (by omega) (by omega) hb0 (by omega) (by omega)
theorem shrU64 (n : Int) (i : Nat) (h : i ≤ 8) : shr .u64 n (8 * (i : Int)) = n / 256 ^ i := by
  unfold shr
  have e : IntKind.u64.bits = 64 := rfl
  rw [e, show (8 * (i : Int)).toNat = 8 * i by omega, Nat.min_eq_left (by omega), Int.pow_mul]
  rfl
theorem bt_get (s : ByteArray) (i : Nat) (h : i < (bytesOf s).length) : bt s (i : Int) = (bytesOf s)[i] := by
  rw [bt_eq, List.getD_eq_getElem?_getD, List.getElem?_eq_getElem h]
  rfl
theorem valBE_snoc (l : List Int) (c : Int) : valBE (l ++ [c]) = valBE l * 256 + c := by unfold valBE; rw [List.foldl_append]; rfl
theorem pow8 (n : Nat) (h : n ≤ 7) : (256 : Int) ^ n ≤ 72057594037927936 := by
  have hn : 256 ^ n ≤ 72057594037927936 := Nat.le_trans (Nat.pow_le_pow_right (by decide) h) (by decide)
  have hc : ((256 ^ n : Nat) : Int) = (256 : Int) ^ n := Int.natCast_pow 256 _
  omega
/-- The bytes of an address. -/
def adrB (v6 : Bool) (hi lo : Int) : List Int := if v6 = true then beN 8 hi ++ beN 8 lo else beN 4 lo
theorem adrB_range (v6 : Bool) (hi lo : Int) : ∀ x ∈ adrB v6 hi lo, 0 ≤ x ∧ x < 256 := by
  intro x hx
  unfold adrB at hx
  split at hx
  · rcases List.mem_append.mp hx with h | h <;> exact beN_range _ _ x h
  · exact beN_range _ _ x hx
theorem adrB_len (v6 : Bool) (hi lo : Int) : (adrB v6 hi lo).length = if v6 = true then 16 else 4 := by
  unfold adrB
  split <;> simp [beN_length]
theorem abytes_loop (n : Int) (z : Nat) (hz : z ≤ 8) : ∀ (m i k : Nat) (x : List Int), i + m = z → x.length ≤ i →
    address_bytes.l0 (k + m + 1) n z x z i = some (strOfNums (x ++ beN m n))
  | 0, i, k, x, h, hx => by
    unfold address_bytes.l0
    rw [if_neg (by omega)]
    simp [beN]
  | m + 1, i, k, x, h, hx => by
    rw [show k + (m + 1) + 1 = (k + m + 1) + 1 by omega]
    unfold address_bytes.l0
    rw [w64 (n := (z : Int) - 1) (by omega) (by omega), w64 (n := (z : Int) - 1 - i) (by omega) (by omega), w64 (n := 8 * ((z : Int) - 1 - i)) (by omega) (by omega), w64 (n := (i : Int) + 1) (by omega) (by omega)]
    rw [if_pos (by omega), if_pos (by omega), if_pos (by omega), show (z : Int) - 1 - i = (m : Int) by omega, shrU64 n m (by omega), show (i : Int) + 1 = ((i + 1 : Nat) : Int) by omega,
      abytes_loop n z hz m (i + 1) k _ (by omega) (by simp; omega)]
    simp [beN]
theorem abytes_is (n : Int) (z : Nat) (hz : z ≤ 8) (k : Nat) (hk : 10 ≤ k) : address_bytes.f k n z = some (strOfNums (beN z n)) := by
  have h := abytes_loop n z hz z 0 (k - z - 1) [] (by omega) (by simp)
  rw [show k - z - 1 + z + 1 = k by omega] at h
  unfold address_bytes.f
  simpa using h
theorem aBytes_is (v6 : Bool) (hi lo : Int) (k : Nat) (hk : 10 ≤ k) : address_Bytes.f k v6 hi lo = some (strOfNums (adrB v6 hi lo)) := by
  unfold address_Bytes.f adrB
  have a1 := abytes_is hi 8 (by omega) k hk
  have a2 := abytes_is lo 8 (by omega) k hk
  have a3 := abytes_is lo 4 (by omega) k hk
  rw [show ((8 : Nat) : Int) = 8 from rfl] at a1 a2
  rw [show ((4 : Nat) : Int) = 4 from rfl] at a3
  split
  · rw [a1, a2]
    simp only [bs]
    rw [if_pos (by rw [strOfNums_size, strOfNums_size, beN_length, beN_length]; omega), ← strOfNums_append]
  · rw [a3]
    simp only [bs]
/-- One byte more of a number of at most 8 bytes. -/
theorem val_step (l : List Int) (hl : ∀ x ∈ l, 0 ≤ x ∧ x < 256) (i : Nat) (h : i < l.length) (h8 : l.length ≤ 8) :
    Go.bits .or .u64 (IntKind.u64.wrap (valBE (l.take i) * 256)) l[i] = valBE (l.take (i + 1)) := by
  have ht : l.take (i + 1) = l.take i ++ [l[i]] := by rw [List.take_add_one]; simp [h]
  have hr := valBE_range (l.take i) (fun x hx => hl x (List.mem_of_mem_take hx))
  have hc := hl l[i] (List.getElem_mem h)
  have hp := pow8 (l.take i).length (by simp; omega)
  rw [ht, valBE_snoc, wu64 (by omega) (by omega), or8u _ _ (by omega) (by omega) (by omega) hc.1 hc.2]
theorem aval_loop (s : ByteArray) (h8 : s.size ≤ 8) : ∀ (m i k : Nat), i + m = s.size →
    address_value.l0 (k + m + 1) s (valBE ((bytesOf s).take i)) s.size i = some (valBE (bytesOf s))
  | 0, i, k, h => by
    have hl := bytesOf_length s
    unfold address_value.l0
    rw [if_neg (by omega), List.take_of_length_le (by omega)]
  | m + 1, i, k, h => by
    have hl := bytesOf_length s
    rw [show k + (m + 1) + 1 = (k + m + 1) + 1 by omega]
    unfold address_value.l0
    have hbr := bt_range s (i : Int)
    rw [if_pos (by omega), if_pos (by omega), if_pos (by omega)]
    try rw [wu64 (n := bt s (i : Int)) (by omega) (by omega)]
    rw [bt_get s i (by omega), val_step _ (bytesOf_range s) i (by omega) (by omega), w64 (n := (i : Int) + 1) (by omega) (by omega), show (i : Int) + 1 = ((i + 1 : Nat) : Int) by omega]
    exact aval_loop s h8 m (i + 1) k (by omega)
theorem aval_is (s : ByteArray) (h8 : s.size ≤ 8) (k : Nat) (hk : 10 ≤ k) : address_value.f k s = some (valBE (bytesOf s)) := by
  have h := aval_loop s h8 s.size 0 (k - s.size - 1) (by omega)
  rw [show k - s.size - 1 + s.size + 1 = k by omega] at h
  unfold address_value.f
  simpa [valBE] using h
theorem aFrom4 (s : ByteArray) (h : s.size = 4) (k : Nat) (hk : 10 ≤ k) : address_FromBytes.f k s = some (false, 0, valBE (bytesOf s), 0) := by
  unfold address_FromBytes.f
  rw [if_pos (by omega), aval_is s (by omega) k hk]
  simp only [bs]
theorem aFrom16 (s : ByteArray) (h : s.size = 16) (k : Nat) (hk : 10 ≤ k) : address_FromBytes.f k s = some (true, valBE ((bytesOf s).take 8), valBE ((bytesOf s).drop 8), 0) := by
  have hl := bytesOf_length s
  unfold address_FromBytes.f
  rw [if_neg (by omega), if_pos (by omega), if_pos (by omega), if_pos (by omega), aval_is _ (by simp; omega) k hk, aval_is _ (by simp; omega) k hk]
  simp only [bs]
  rw [bytesOf_extract, bytesOf_extract, List.drop_zero, List.take_of_length_le (l := List.drop 8 (bytesOf s)) (by simp; omega)]
end Go.Proofs.YtocobalkikkhlaaDoor.Pure

/-! ### Ip6A -/
namespace Go.Proofs.YtocobalkikkhlaaDoor.Pure
open Go.RowKit Go.Proofs.YtocobalkikkhlaaDoor.X Go.Proofs.YtocobalkikkhlaaDoorW.PrintWords Go.Proofs.YtocobalkikkhlaaDoorW.PrintLast Go.Proofs.YtocobalkikkhlaaDoorW.PrintMore

theorem str_bytes (s : ByteArray) : strOfNums (bytesOf s) = s := bytesOf_inj (bytesOf_strOfNums _ (bytesOf_range s))
theorem str_nil : strOfNums [] = (⟨#[]⟩ : ByteArray) := rfl
theorem nil_app (s : ByteArray) : s ++ (⟨#[]⟩ : ByteArray) = s := by apply bytesOf_inj; rw [bytesOf_append, bytesOf_nil, List.append_nil]
theorem app_nil (s : ByteArray) : (⟨#[]⟩ : ByteArray) ++ s = s := by apply bytesOf_inj; rw [bytesOf_append, bytesOf_nil, List.nil_append]
theorem app_assoc (a b c : ByteArray) : a ++ b ++ c = a ++ (b ++ c) := by apply bytesOf_inj; simp only [bytesOf_append, List.append_assoc]
end Go.Proofs.YtocobalkikkhlaaDoor.Pure

/-! ### Ip4E -/
set_option linter.unusedVariables false
set_option linter.unusedSimpArgs false
namespace Go.Proofs.YtocobalkikkhlaaDoor.Pure
open Go.RowKit Go.Proofs.YtocobalkikkhlaaDoor.X Go.Proofs.YtocobalkikkhlaaDoorW.PrintWords Go.Proofs.YtocobalkikkhlaaDoorW.PrintLast Go.Proofs.YtocobalkikkhlaaDoorW.PrintMore

theorem put_ok4 (n : Int) (z : Nat) (h1 : 1 ≤ z) (h7 : z ≤ 7) (h0 : 0 ≤ n) (hn : n < 256 ^ z) : putOf n z = strOfNums (beN z n) := by
  unfold putOf
  rw [if_pos ⟨by omega, by omega, h0, by rw [Int.toNat_natCast]; exact hn⟩, Int.toNat_natCast]
theorem put14 (n : Int) (h0 : 0 ≤ n) (hn : n ≤ 255) : putOf n 1 = strOfNums [n] := by
  have h := put_ok4 n 1 (by omega) (by omega) h0 (by omega)
  rw [show ((1 : Nat) : Int) = 1 from rfl] at h
  rw [h]
  simp [beN]
  congr 1
  congr 1
  omega
theorem put24 (n : Int) (h0 : 0 ≤ n) (hn : n ≤ 65535) : putOf n 2 = strOfNums (beN 2 n) := put_ok4 n 2 (by omega) (by omega) h0 (by omega)
theorem or64 : ∀ m : Fin 16, Go.bits .or .i64 64 (m.val : Int) = 64 + m.val := by decide +kernel
theorem or_first (n : Nat) (h : n ≤ 40) (h4 : n % 4 = 0) : Go.bits .or .i64 64 (wrap64 (Int.tdiv (20 + (n : Int)) 4)) = 64 + (20 + (n : Int)) / 4 := by
  have e : Int.tdiv (20 + (n : Int)) 4 = (((20 + n) / 4 : Nat) : Int) := by rw [Int.tdiv_eq_ediv_of_nonneg (by omega)]; omega
  rw [e, w64 (by omega) (by omega)]
  have := or64 ⟨(20 + n) / 4, by omega⟩
  rw [this]
  show (64 : Int) + (((20 + n) / 4 : Nat) : Int) = _
  omega
/-- The flags and the offset. -/
def flg (off : Int) (dn mr : Bool) : Int := off / 8 + (if dn = true then 16384 else 0) + (if mr = true then 8192 else 0)
section
variable (c id tt pr : Int) (dn mr : Bool) (off : Int) (v : Bool) (s1 s2 : Int) (w : Bool) (d1 d2 : Int)
/-- The bytes ahead of the checksum, and behind it. -/
def h4A (o p : ByteArray) : List Int := [64 + (20 + (o.size : Int)) / 4] ++ [c] ++ beN 2 (20 + (o.size : Int) + p.size) ++ beN 2 id ++ beN 2 (flg off dn mr) ++ [tt] ++ [pr]
def h4B (o : ByteArray) : List Int := adrB v s1 s2 ++ adrB w d1 d2 ++ bytesOf o
def e4Of (o p : ByteArray) : ByteArray := strOfNums (h4A c id tt pr dn mr off o p ++ beN 2 (sumOf (strOfNums (h4A c id tt pr dn mr off o p ++ [0, 0] ++ h4B v s1 s2 w d1 d2 o))) ++ h4B v s1 s2 w d1 d2 o ++ bytesOf p)
def okN4 : Prop := (0 ≤ c ∧ c ≤ 255) ∧ (0 ≤ tt ∧ tt ≤ 255) ∧ (0 ≤ pr ∧ pr ≤ 255) ∧ (0 ≤ id ∧ id ≤ 65535) ∧ (0 ≤ off ∧ off ≤ 65528) ∧ Int.tmod off 8 = 0
instance : Decidable (okN4 c id tt pr off) := by unfold okN4; infer_instance
def ok4 : Prop := okN4 c id tt pr off ∧ (v = false ∧ s1 = 0 ∧ s2 ≤ 4294967295) ∧ (w = false ∧ d1 = 0 ∧ d2 ≤ 4294967295)
instance : Decidable (ok4 c id tt pr off v s1 s2 w d1 d2) := by unfold ok4; infer_instance
theorem flg_range (h0 : 0 ≤ off) (h1 : off ≤ 65528) : 0 ≤ flg off dn mr ∧ flg off dn mr ≤ 65535 := by
  unfold flg
  split <;> split <;> omega
theorem z00 : (⟨#[0, 0]⟩ : ByteArray) = strOfNums [0, 0] := by decide +kernel
theorem two_str (a b : Int) : strOfNums [a, b] = strOfNums [a] ++ strOfNums [b] := strOfNums_append [a] [b]
variable (l : List S125)
theorem j2_4 (o p : ByteArray) (ho : o.size ≤ 40) (ho4 : o.size % 4 = 0) (hp : 20 + o.size + p.size ≤ 65535) (hN : okN4 c id tt pr off) (k : Nat) (hk : 65600 ≤ k) :
    ipv4_Encode.j2 (k + 1) o (20 + (o.size : Int)) (flg off dn mr) c id tt pr dn mr off v s1 s2 w d1 d2 l p = some (e4Of c id tt pr dn mr off v s1 s2 w d1 d2 o p, 0) := by
  obtain ⟨hc, htt, hpr, hid, hoff, -⟩ := hN
  have hf := flg_range dn mr off hoff.1 hoff.2
  have a1 := adrB_len v s1 s2
  have a2 := adrB_len w d1 d2
  have a1' : (adrB v s1 s2).length ≤ 16 := by rw [a1]; split <;> omega
  have a2' : (adrB w d1 d2).length ≤ 16 := by rw [a2]; split <;> omega
  clear a1 a2
  have zs : ∀ q : List Int, (strOfNums q).size = q.length := strOfNums_size
  have P1 : field_Put.f k (64 + (20 + (o.size : Int)) / 4) 1 = some (strOfNums [64 + (20 + (o.size : Int)) / 4]) := by rw [put_is _ _ k (by omega), put14 _ (by omega) (by omega)]
  have P2 : field_Put.f k c 1 = some (strOfNums [c]) := by rw [put_is _ _ k (by omega), put14 _ hc.1 hc.2]
  have P3 : field_Put.f k (20 + (o.size : Int) + p.size) 2 = some (strOfNums (beN 2 (20 + (o.size : Int) + p.size))) := by rw [put_is _ _ k (by omega), put24 _ (by omega) (by omega)]
  have P4 : field_Put.f k id 2 = some (strOfNums (beN 2 id)) := by rw [put_is _ _ k (by omega), put24 _ hid.1 hid.2]
  have P5 : field_Put.f k (flg off dn mr) 2 = some (strOfNums (beN 2 (flg off dn mr))) := by rw [put_is _ _ k (by omega), put24 _ hf.1 hf.2]
  have P6 : field_Put.f k tt 1 = some (strOfNums [tt]) := by rw [put_is _ _ k (by omega), put14 _ htt.1 htt.2]
  have P7 : field_Put.f k pr 1 = some (strOfNums [pr]) := by rw [put_is _ _ k (by omega), put14 _ hpr.1 hpr.2]
  have hS := sumOf_range (strOfNums (h4A c id tt pr dn mr off o p ++ [0, 0] ++ h4B v s1 s2 w d1 d2 o))
  have P8 : field_Put.f k (sumOf (strOfNums (h4A c id tt pr dn mr off o p ++ [0, 0] ++ h4B v s1 s2 w d1 d2 o))) 2 = some (strOfNums (beN 2 (sumOf (strOfNums (h4A c id tt pr dn mr off o p ++ [0, 0] ++ h4B v s1 s2 w d1 d2 o))))) := by rw [put_is _ _ k (by omega), put24 _ hS.1 hS.2]
  have eA : strOfNums [64 + (20 + (o.size : Int)) / 4] ++ strOfNums [c] ++ strOfNums (beN 2 (20 + (o.size : Int) + p.size)) ++ strOfNums (beN 2 id) ++ strOfNums (beN 2 (flg off dn mr)) ++ strOfNums [tt] ++ strOfNums [pr] = strOfNums (h4A c id tt pr dn mr off o p) := by
    unfold h4A
    simp only [strOfNums_append]
  have eB : strOfNums (adrB v s1 s2) ++ strOfNums (adrB w d1 d2) ++ o = strOfNums (h4B v s1 s2 w d1 d2 o) := by
    unfold h4B
    simp only [strOfNums_append, str_bytes]
  have zA : (h4A c id tt pr dn mr off o p).length = 10 := by unfold h4A; simp [beN_length]
  have zB : (h4B v s1 s2 w d1 d2 o).length ≤ 32 + o.size := by unfold h4B; simp only [List.length_append, bytesOf_length]; omega
  rw [ipv4_Encode.j2, or_first o.size ho ho4, P1]
  simp only [bs]
  rw [P2]
  simp only [bs]
  rw [if_pos (by simp only [size_append, zs, beN_length, List.length_cons, List.length_nil]; omega), w64 (n := 20 + (o.size : Int) + p.size) (by omega) (by omega), P3]
  simp only [bs]
  rw [if_pos (by simp only [size_append, zs, beN_length, List.length_cons, List.length_nil]; omega), P4]
  simp only [bs]
  rw [if_pos (by simp only [size_append, zs, beN_length, List.length_cons, List.length_nil]; omega), P5]
  simp only [bs]
  rw [if_pos (by simp only [size_append, zs, beN_length, List.length_cons, List.length_nil]; omega), P6]
  simp only [bs]
  rw [if_pos (by simp only [size_append, zs, beN_length, List.length_cons, List.length_nil]; omega), P7]
  simp only [bs]
  rw [if_pos (by simp only [size_append, zs, beN_length, List.length_cons, List.length_nil]; omega), aBytes_is _ _ _ k (by omega), aBytes_is _ _ _ k (by omega)]
  simp only [bs]
  rw [eA, eB, z00, if_pos (by simp only [zs]; omega), if_pos (by simp only [size_append, zs]; omega), if_pos (by simp only [zs, List.length_cons, List.length_nil]; omega), if_pos (by simp only [size_append, zs, List.length_cons, List.length_nil]; omega), ← strOfNums_append, ← strOfNums_append, sum_is _ (by simp only [zs, List.length_append, List.length_cons, List.length_nil]; omega) k (by simp only [zs, List.length_append, List.length_cons, List.length_nil]; omega)]
  simp only [bs]
  rw [P8]
  simp only [bs]
  rw [if_pos (by simp only [zs, beN_length]; omega), if_pos (by simp only [size_append, zs, beN_length]; omega), if_pos (by simp only [size_append, zs, beN_length]; omega)]
  unfold e4Of
  simp only [strOfNums_append, str_bytes]
end
theorem outside_is (x m : Int) : ipv4_outside.f x m = some (!decide (0 ≤ x ∧ x ≤ m)) := by
  unfold ipv4_outside.f
  by_cases a : x < 0
  · rw [if_pos a, decide_eq_false (fun z => by omega)]; rfl
  · rw [if_neg a]
    by_cases b : x > m
    · rw [decide_eq_true b, decide_eq_false (fun z => by omega)]; rfl
    · rw [decide_eq_false b, decide_eq_true (show 0 ≤ x ∧ x ≤ m by omega)]; rfl
theorem host_is (v : Bool) (s1 s2 : Int) : ipv4_host.f v s1 s2 = some (decide (v = false ∧ s1 = 0 ∧ s2 ≤ 4294967295)) := by
  unfold ipv4_host.f address_Valid.f
  cases v with
  | true => rw [if_pos rfl]; simp
  | false =>
    rw [if_neg (by decide), if_neg (by decide)]
    by_cases a : s1 = 0
    · rw [if_pos a]
      simp [bs, a]
    · rw [if_neg a]
      simp [bs, a]
theorem ifnd {α : Type} (P : Prop) [Decidable P] (A B : α) : (if (!decide P) = true then A else B) = if P then B else A := by
  by_cases h : P
  · rw [if_pos h, if_neg (by simp [h])]
  · rw [if_neg h, if_pos (by simp [h])]
theorem ifd {α : Type} (P : Prop) [Decidable P] (A B : α) : (if decide P = true then A else B) = if P then A else B := by
  by_cases h : P
  · rw [if_pos h, if_pos (by simp [h])]
  · rw [if_neg h, if_neg (by simp [h])]
section
variable (c id tt pr : Int) (dn mr : Bool) (off : Int) (v : Bool) (s1 s2 : Int) (w : Bool) (d1 d2 : Int) (p : ByteArray)
theorem inRange_nil (k : Nat) : ipv4_inRange.f (k + 2) c id tt pr dn mr off v s1 s2 w d1 d2 [] p = some (decide (ok4 c id tt pr off v s1 s2 w d1 d2)) := by
  have ho : api_Option_100.f (k + 1) [] = some false := by
    unfold api_Option_100.f
    rw [api_Option_100.l0, if_neg (by decide)]
    rfl
  have hj : ∀ b : Bool, ipv4_inRange.j0 (k + 2) b c id tt pr dn mr off v s1 s2 w d1 d2 [] p = some (!b && decide ((v = false ∧ s1 = 0 ∧ s2 ≤ 4294967295) ∧ (w = false ∧ d1 = 0 ∧ d2 ≤ 4294967295))) := by
    intro b
    rw [ipv4_inRange.j0]
    cases b with
    | true => rw [if_pos rfl]; rfl
    | false =>
      rw [if_neg (by decide), host_is, host_is, ho]
      simp only [bs, ifd]
      by_cases a : v = false ∧ s1 = 0 ∧ s2 ≤ 4294967295
      · rw [if_pos a]
        by_cases b : w = false ∧ d1 = 0 ∧ d2 ≤ 4294967295
        · rw [if_pos b, decide_eq_true ⟨a, b⟩]; rfl
        · rw [if_neg b, decide_eq_false (fun z => b z.2)]; rfl
      · rw [if_neg a, decide_eq_false (fun z => a z.1)]; rfl
  unfold ipv4_inRange.f
  simp only [outside_is, bs, hj, ifnd]
  by_cases h1 : 0 ≤ c ∧ c ≤ 255
  · rw [if_pos h1]
    by_cases h2 : 0 ≤ tt ∧ tt ≤ 255
    · rw [if_pos h2]
      by_cases h3 : 0 ≤ pr ∧ pr ≤ 255
      · rw [if_pos h3]
        by_cases h4 : 0 ≤ id ∧ id ≤ 65535
        · rw [if_pos h4]
          by_cases h5 : 0 ≤ off ∧ off ≤ 65528
          · rw [if_pos h5]
            by_cases h6 : Int.tmod off 8 = 0
            · rw [show (Int.tmod off 8 != 0) = false by simp [h6]]
              congr 1
              rw [Bool.not_false, Bool.true_and]
              apply decide_eq_decide.mpr
              exact ⟨fun z => ⟨⟨h1, h2, h3, h4, h5, h6⟩, z⟩, fun z => z.2⟩
            · rw [show (Int.tmod off 8 != 0) = true by simp [h6], decide_eq_false (fun z : ok4 c id tt pr off v s1 s2 w d1 d2 => h6 z.1.2.2.2.2.2)]; rfl
          · rw [if_neg h5, decide_eq_false (fun z : ok4 c id tt pr off v s1 s2 w d1 d2 => h5 z.1.2.2.2.2.1)]; rfl
        · rw [if_neg h4, decide_eq_false (fun z : ok4 c id tt pr off v s1 s2 w d1 d2 => h4 z.1.2.2.2.1)]; rfl
      · rw [if_neg h3, decide_eq_false (fun z : ok4 c id tt pr off v s1 s2 w d1 d2 => h3 z.1.2.2.1)]; rfl
    · rw [if_neg h2, decide_eq_false (fun z : ok4 c id tt pr off v s1 s2 w d1 d2 => h2 z.1.2.1)]; rfl
  · rw [if_neg h1, decide_eq_false (fun z : ok4 c id tt pr off v s1 s2 w d1 d2 => h1 z.1.1)]; rfl
/-- What Encode answers for a packet with no options. -/
def enc0Of : ByteArray × Int := if ok4 c id tt pr off v s1 s2 w d1 d2 then (if 20 + (p.size : Int) > 65535 then (⟨#[]⟩, 3) else (e4Of c id tt pr false false off v s1 s2 w d1 d2 ⟨#[]⟩ p, 0)) else (⟨#[]⟩, 4)
theorem flg0 (h : 0 ≤ off ∧ off ≤ 65528) : wrap64 (Int.tdiv off 8) = flg off false false := by
  rw [Int.tdiv_eq_ediv_of_nonneg h.1, w64 (by omega) (by omega)]
  unfold flg
  simp
theorem encode4_nil (hp : p.size ≤ 4611686018427387904) (k : Nat) (hk : 65610 ≤ k) :
    ipv4_Encode.f k c id tt pr false false off v s1 s2 w d1 d2 [] p = some (enc0Of c id tt pr off v s1 s2 w d1 d2 p) := by
  obtain ⟨q, rfl⟩ : ∃ q, k = q + 3 := ⟨k - 3, by omega⟩
  have hw : ipv4_written.f (q + 3) [] = some (⟨#[]⟩, true) := by
    rw [ipv4_written.f, ipv4_written.l0, if_neg (by decide), if_neg (by decide), ipv4_written.l1, if_neg (by decide)]
  unfold ipv4_Encode.f enc0Of
  rw [inRange_nil c id tt pr false false off v s1 s2 w d1 d2 p (q + 1), hw]
  simp only [bs, ifd]
  by_cases h : ok4 c id tt pr off v s1 s2 w d1 d2
  · rw [if_pos h, if_pos h, if_pos trivial, show wrap64 (20 + (((⟨#[]⟩ : ByteArray).size : Nat) : Int)) = 20 by decide +kernel, show wrap64 (65535 - 20) = 65515 by decide +kernel, ipv4_Encode.j0]
    by_cases a : (p.size : Int) > 65515
    · rw [if_pos (by simp [a]), if_pos (by omega)]
    · rw [if_neg (by simp [a]), if_neg (by decide), ipv4_Encode.j1, if_neg (by decide), flg0 off h.1.2.2.2.2.1, if_neg (by omega)]
      have := j2_4 c id tt pr false false off v s1 s2 w d1 d2 [] ⟨#[]⟩ p (by decide) (by decide) (by rw [show (⟨#[]⟩ : ByteArray).size = 0 from rfl]; omega) h.1 q (by omega)
      exact this
  · rw [if_neg h, if_neg h]
end
end Go.Proofs.YtocobalkikkhlaaDoor.Pure

/-! ### Ip4T -/
set_option linter.unusedVariables false
set_option linter.unusedSimpArgs false
namespace Go.Proofs.YtocobalkikkhlaaDoor.Pure
open Go.RowKit Go.Proofs.YtocobalkikkhlaaDoor.X Go.Proofs.YtocobalkikkhlaaDoorW.PrintWords Go.Proofs.YtocobalkikkhlaaDoorW.PrintLast Go.Proofs.YtocobalkikkhlaaDoorW.PrintMore

theorem nat_and_pow (n i : Nat) : n &&& 2 ^ i = n / 2 ^ i % 2 * 2 ^ i := by
  apply Nat.eq_of_testBit_eq
  intro j
  rw [Nat.testBit_and, Nat.testBit_two_pow, Nat.testBit_mul_two_pow]
  by_cases h : i = j
  · subst h
    rw [decide_eq_true rfl, Bool.and_true, Nat.sub_self, decide_eq_true (Nat.le_refl i), Bool.true_and, Nat.testBit_eq_decide_div_mod_eq, Nat.testBit_eq_decide_div_mod_eq]
    apply decide_eq_decide.mpr
    rw [Nat.pow_zero, Nat.div_one]
    omega
  · rw [decide_eq_false h, Bool.and_false]
    by_cases hj : i ≤ j
    · have h2 : 2 ^ 1 ≤ 2 ^ (j - i) := Nat.pow_le_pow_right (by omega) (by omega)
      rw [decide_eq_true hj, Bool.true_and, Nat.testBit_eq_decide_div_mod_eq, Nat.div_eq_of_lt (by omega)]
      rfl
    · rw [decide_eq_false hj, Bool.false_and]
theorem and_pow (x : Int) (h0 : 0 ≤ x) (h1 : x < 9223372036854775807) (i : Nat) (hi : i < 62) : Go.bits .and .i64 x ((2 ^ i : Nat) : Int) = x / ((2 ^ i : Nat) : Int) % 2 * ((2 ^ i : Nat) : Int) := by
  obtain ⟨n, rfl⟩ := Int.eq_ofNat_of_zero_le h0
  have hp : 2 ^ i < 2 ^ 62 := Nat.pow_lt_pow_right (by omega) hi
  show IntKind.i64.wrap ((BitVec.ofInt 64 (n : Int) &&& BitVec.ofInt 64 ((2 ^ i : Nat) : Int)).toNat : Int) = _
  rw [BitVec.toNat_and, ofInt_u64 n (by omega), ofInt_u64 (2 ^ i) (by omega), nat_and_pow]
  have hm : n / 2 ^ i % 2 * 2 ^ i ≤ 1 * 2 ^ i := Nat.mul_le_mul_right _ (by omega)
  rw [Go.Lib.wrap_i64_small _ (by omega)]
  push_cast
  rfl
theorem and15 (x : Int) (h0 : 0 ≤ x) (h1 : x < 65536) : Go.bits .and .i64 x 32768 = x / 32768 % 2 * 32768 := and_pow x h0 (by omega) 15 (by omega)
theorem and14 (x : Int) (h0 : 0 ≤ x) (h1 : x < 65536) : Go.bits .and .i64 x 16384 = x / 16384 % 2 * 16384 := and_pow x h0 (by omega) 14 (by omega)
theorem and13 (x : Int) (h0 : 0 ≤ x) (h1 : x < 65536) : Go.bits .and .i64 x 8192 = x / 8192 % 2 * 8192 := and_pow x h0 (by omega) 13 (by omega)
theorem and8191 (x : Int) (h0 : 0 ≤ x) (h1 : x < 65536) : Go.bits .and .i64 x 8191 = x % 8192 :=
  bits_mask .i64 63 (by decide) wraps_i64' 13 (by omega) x h0 (by omega)
theorem and15u : ∀ x : Fin 256, Go.bits .and .u8 (x.val : Int) 15 = (x.val : Int) % 16 := by decide +kernel
theorem take1_4 (L : List Int) (i : Nat) (h : i < L.length) : valBE ((L.drop i).take 1) = L.getD i 0 := by
  have e : (L.drop i).take 1 = [L[i]] := by rw [List.drop_eq_getElem_cons h]; rfl
  rw [e, List.getD_eq_getElem?_getD, List.getElem?_eq_getElem h]
  simp [valBE]
theorem rint4 (s : ByteArray) (i z : Nat) (k : Nat) (hs : s.size ≤ 4611686018427387904) (hi : i + z ≤ s.size) (h1 : 1 ≤ z) (h7 : z ≤ 7) (hk : 8 ≤ k) :
    field_Reader_Int.f k s (i : Int) 0 (z : Int) = some (valBE (((bytesOf s).drop i).take z), s, ((i + z : Nat) : Int), 0) := by
  rw [int_is s i z 0 k hs (by omega) h1 h7 hk, if_pos rfl, if_neg (by omega), bytesOf_extract, show i + z - i = z by omega]
theorem rtake4 (s : ByteArray) (i z : Nat) (hs : s.size ≤ 4611686018427387904) (hi : i + z ≤ s.size) :
    field_Reader_Take.f s (i : Int) 0 (z : Int) = some (s.extract i (i + z), s, ((i + z : Nat) : Int), 0) := by
  unfold field_Reader_Take.f
  rw [decide_eq_true (show (z : Int) ≥ 0 by omega), next_is s i 0 _ hs (by omega) (by omega) (by omega), if_pos rfl, if_neg (by omega)]
  simp only [bs, Int.toNat_natCast]
  rw [show (i : Int) + (z : Int) = ((i + z : Nat) : Int) by omega]
theorem aF4 (s : ByteArray) (i : Nat) (hi : i + 4 ≤ s.size) (k : Nat) (hk : 10 ≤ k) : address_FromBytes.f k (s.extract i (i + 4)) = some (false, 0, valBE (((bytesOf s).drop i).take 4), 0) := by
  rw [aFrom4 _ (by rw [ByteArray.size_extract]; omega) k hk, bytesOf_extract, show i + 4 - i = 4 by omega]
theorem dt_range (s : ByteArray) (i z : Nat) : ∀ x ∈ ((bytesOf s).drop i).take z, 0 ≤ x ∧ x < 256 := fun x hx => bytesOf_range s x (List.mem_of_mem_drop (List.mem_of_mem_take hx))
/-- The options of a header; false: they are malformed. -/
def opts4 : Nat → List Int → List S125 → List S125 × Bool
  | 0, _, _ => ([], false)
  | m + 1, b, l =>
    if b.length = 0 ∨ b.getD 0 0 = 0 then (l, true)
    else if b.getD 0 0 = 1 then opts4 m (b.drop 1) l
    else if b.length = 1 then ([], false)
    else if b.getD 1 0 < 2 ∨ (b.length : Int) < b.getD 1 0 then ([], false)
    else opts4 m (b.drop (b.getD 1 0).toNat) (l ++ [(⟨b.getD 0 0, strOfNums ((b.take (b.getD 1 0).toNat).drop 2)⟩ : S125)])
theorem getD_drop4 (b : List Int) (i j : Nat) : (b.drop i).getD j 0 = b.getD (i + j) 0 := by
  rw [List.getD_eq_getElem?_getD, List.getD_eq_getElem?_getD, List.getElem?_drop]
theorem rd_nat (b : List Int) (i : Nat) : rd b (i : Int) = b.getD i 0 := by
  unfold rd
  rw [Int.toNat_natCast]
theorem opts_loop (b : List Int) (hb : b.length ≤ 1000000) (hr : ∀ x ∈ b, 0 ≤ x ∧ x < 256) : ∀ (m i k : Nat) (l : List S125), b.length ≤ i + m → i ≤ b.length → l.length ≤ i →
    ipv4_options.l0 (k + m + 1) b l (i : Int) = some (opts4 (m + 1) (b.drop i) l)
  | m, i, k, l, hm, hi, hl => by
    have hg : ∀ j, 0 ≤ b.getD j 0 ∧ b.getD j 0 < 256 := fun j => by
      rw [List.getD_eq_getElem?_getD]
      cases h : b[j]? with
      | none => simp
      | some v => exact hr v (List.mem_of_getElem? h)
    rw [ipv4_options.l0, opts4, List.length_drop, getD_drop4, getD_drop4, Nat.add_zero]
    by_cases h : i = b.length
    · rw [if_neg (by omega), if_pos (.inl (by omega))]
    rw [if_pos (by omega), if_pos (by omega), rd_nat]
    by_cases h0 : b.getD i 0 = 0
    · rw [if_pos h0, if_pos (.inr h0)]
    rw [if_neg h0, if_neg (show ¬ (b.length - i = 0 ∨ b.getD i 0 = 0) from fun z => z.elim (fun y => by omega) h0)]
    obtain ⟨m, rfl⟩ : ∃ q, m = q + 1 := ⟨m - 1, by omega⟩
    rw [w64 (n := (i : Int) + 1) (by omega) (by omega)]
    by_cases h1 : b.getD i 0 = 1
    · rw [if_pos h1, if_pos h1, show (i : Int) + 1 = ((i + 1 : Nat) : Int) by omega, show k + (m + 1) = k + m + 1 by omega, opts_loop b hb hr m (i + 1) k l (by omega) (by omega) (by omega), List.drop_drop]
    rw [if_neg h1, if_neg h1]
    by_cases h2 : i + 1 = b.length
    · rw [if_pos (by omega), if_pos (by omega)]
    have hv := hg (i + 1)
    rw [if_neg (by omega), if_pos (by omega), if_pos (by omega), if_neg (show ¬ (b.length - i = 1) by omega), show (i : Int) + 1 = ((i + 1 : Nat) : Int) by omega, rd_nat]
    generalize hw : b.getD (i + 1) 0 = v at hv ⊢
    rw [w64 (n := v) (by omega) (by omega), w64 (n := (i : Int) + v) (by omega) (by omega), w64 (n := (i : Int) + 2) (by omega) (by omega)]
    by_cases h3 : v < 2
    · rw [if_pos (by omega), if_pos (.inl h3)]
    rw [if_neg (by omega)]
    by_cases h4 : (i : Int) + v > (b.length : Int)
    · rw [if_pos h4, if_pos (.inr (by omega))]
    rw [if_neg h4, if_neg (show ¬ (v < 2 ∨ ((b.length - i : Nat) : Int) < v) from fun z => z.elim h3 (fun y => by omega)), if_pos (by omega), if_pos (by omega), if_pos (by omega), if_pos (by omega),
      w64 (n := b.getD i 0) (by have := hg i; omega) (by have := hg i; omega)]
    obtain ⟨n, rfl⟩ : ∃ n : Nat, v = n := ⟨v.toNat, by omega⟩
    rw [show (i : Int) + (n : Int) = ((i + n : Nat) : Int) by omega, show (i : Int) + 2 = ((i + 2 : Nat) : Int) by omega, Int.toNat_natCast, Int.toNat_natCast, Int.toNat_natCast, show k + (m + 1) = (k + m) + 1 by omega]
    obtain ⟨d, hd⟩ : ∃ d, m = d + (n - 1) := ⟨m - (n - 1), by omega⟩
    have e1 : (b.take (i + n)).drop (i + 2) = ((b.drop i).take n).drop 2 := by
      rw [List.drop_take, List.drop_take, List.drop_drop, show i + n - (i + 2) = n - 2 by omega]
    rw [e1, opts_loop b hb hr m (i + n) k _ (by omega) (by omega) (by rw [List.length_append]; simp; omega), List.drop_drop]
  termination_by m => m
theorem options_is (s : ByteArray) (hs : s.size ≤ 1000000) (k : Nat) : ipv4_options.f (k + s.size + 1) s = some (opts4 (s.size + 1) (bytesOf s) []) := by
  have hl := bytesOf_length s
  unfold ipv4_options.f
  rw [if_pos (by omega)]
  have := opts_loop (bytesOf s) (by omega) (bytesOf_range s) s.size 0 k [] (by omega) (by omega) (by simp)
  rw [List.drop_zero] at this
  exact this
abbrev P4 := Int × Int × Int × Int × Bool × Bool × Int × Bool × Int × Int × Bool × Int × Int × (List (S125)) × ByteArray × Int
def bad4 (e : Int) : P4 := (0, 0, 0, 0, false, false, 0, false, 0, 0, false, 0, 0, ([] : List (S125)), (⟨#[]⟩ : ByteArray), e)
/-- The length of the header. -/
def hl4 (L : List Int) : Nat := 4 * (L.getD 0 0 % 16).toNat
/-- What Decode answers. -/
def dec4Of (L : List Int) : P4 :=
  if L.length < 20 then bad4 1
  else if L.getD 0 0 / 16 ≠ 4 ∨ hl4 L < 20 then bad4 2
  else if L.length < hl4 L ∨ (L.length : Int) < valBE ((L.drop 2).take 2) then bad4 1
  else if valBE ((L.drop 2).take 2) < (hl4 L : Int) then bad4 2
  else if sumOf (strOfNums (L.take (hl4 L))) ≠ 0 then bad4 8
  else if (opts4 (hl4 L - 20 + 1) ((L.take (hl4 L)).drop 20) []).2 = false ∨ valBE ((L.drop 6).take 2) / 32768 % 2 ≠ 0 then bad4 2
  else (L.getD 1 0, valBE ((L.drop 4).take 2), L.getD 8 0, L.getD 9 0, (valBE ((L.drop 6).take 2) / 16384 % 2 != 0), (valBE ((L.drop 6).take 2) / 8192 % 2 != 0), 8 * (valBE ((L.drop 6).take 2) % 8192),
    false, 0, valBE ((L.drop 12).take 4), false, 0, valBE ((L.drop 16).take 4), (opts4 (hl4 L - 20 + 1) ((L.take (hl4 L)).drop 20) []).1, strOfNums ((L.take (valBE ((L.drop 2).take 2)).toNat).drop (hl4 L)), 0)
theorem decode4_is (s : ByteArray) (hs : s.size ≤ 4611686018427387904) (k : Nat) (hk : 200 ≤ k) : ipv4_Decode.f k s = some (dec4Of (bytesOf s)) := by
  have hl := bytesOf_length s
  obtain ⟨q, rfl⟩ : ∃ q, k = q + 2 := ⟨k - 2, by omega⟩
  unfold ipv4_Decode.f dec4Of
  by_cases h20 : (s.size : Int) < 20
  · rw [if_pos h20, if_pos (by omega)]
    rfl
  have hb0 : bt s 0 = (bytesOf s).getD 0 0 := bt_eq s 0
  have hr0 := bt_range s 0
  have e15 : wrap64 (4 * wrap64 (Go.bits .and .u8 (bt s 0) 15)) = (hl4 (bytesOf s) : Int) := by
    have := and15u ⟨(bt s 0).toNat, by omega⟩
    rw [show (((⟨(bt s 0).toNat, by omega⟩ : Fin 256).val : Nat) : Int) = bt s 0 from by show (((bt s 0).toNat : Nat) : Int) = _; omega] at this
    rw [this, w64 (n := bt s 0 % 16) (by omega) (by omega), w64 (by omega) (by omega)]
    unfold hl4
    rw [← hb0]
    omega
  rw [if_neg h20, if_pos (show (0 : Int) < (s.size : Int) by omega), if_neg (show ¬ (bytesOf s).length < 20 by omega), e15, hb0]
  have hH : hl4 (bytesOf s) ≤ 60 := by unfold hl4; omega
  by_cases h4 : (bytesOf s).getD 0 0 / 16 = 4
  case neg =>
    rw [if_neg h4, if_pos (.inl h4), ipv4_Decode.j0, if_pos rfl]
    rfl
  rw [if_pos h4]
  by_cases h5 : hl4 (bytesOf s) < 20
  · rw [if_pos (.inr h5), ipv4_Decode.j0, if_pos (by simp; omega)]
    rfl
  rw [if_neg (show ¬ ((bytesOf s).getD 0 0 / 16 ≠ 4 ∨ hl4 (bytesOf s) < 20) from fun z => z.elim (fun y => y h4) h5), ipv4_Decode.j0, if_neg (by simp; omega)]
  have r0 := rint4 s 0 1 (q + 1) hs (by omega) (by omega) (by omega) (by omega)
  have r1 := rint4 s 1 1 (q + 1) hs (by omega) (by omega) (by omega) (by omega)
  have r2 := rint4 s 2 2 (q + 1) hs (by omega) (by omega) (by omega) (by omega)
  have r4 := rint4 s 4 2 (q + 1) hs (by omega) (by omega) (by omega) (by omega)
  have r6 := rint4 s 6 2 (q + 1) hs (by omega) (by omega) (by omega) (by omega)
  have r8 := rint4 s 8 1 (q + 1) hs (by omega) (by omega) (by omega) (by omega)
  have r9 := rint4 s 9 1 (q + 1) hs (by omega) (by omega) (by omega) (by omega)
  have r10 := rint4 s 10 2 (q + 1) hs (by omega) (by omega) (by omega) (by omega)
  have t12 := rtake4 s 12 4 hs (by omega)
  have t16 := rtake4 s 16 4 hs (by omega)
  have a12 := aF4 s 12 (by omega) q (by omega)
  have a16 := aF4 s 16 (by omega) q (by omega)
  have v2 := valBE_range _ (dt_range s 2 2)
  have v6 := valBE_range _ (dt_range s 6 2)
  rw [show (((bytesOf s).drop 2).take 2).length = 2 by simp; omega] at v2
  rw [show (((bytesOf s).drop 6).take 2).length = 2 by simp; omega] at v6
  rw [take1_4 _ _ (by omega)] at r0 r1 r8 r9
  simp only [show ((0 : Nat) : Int) = 0 from rfl, show ((1 : Nat) : Int) = 1 from rfl, show ((2 : Nat) : Int) = 2 from rfl, show ((4 : Nat) : Int) = 4 from rfl, Nat.reduceAdd, show ((6 : Nat) : Int) = 6 from rfl, show ((8 : Nat) : Int) = 8 from rfl, show ((9 : Nat) : Int) = 9 from rfl, show ((10 : Nat) : Int) = 10 from rfl, show ((12 : Nat) : Int) = 12 from rfl, show ((16 : Nat) : Int) = 16 from rfl] at r0 r1 r2 r4 r6 r8 r9 r10 t12 t16 a12 a16
  simp only [field_NewReader.f, bs, r0, r1, r2, r4, r6, r8, r9, r10]
  obtain ⟨n, hn⟩ : ∃ n : Nat, valBE (((bytesOf s).drop 2).take 2) = n := ⟨_, (Int.toNat_of_nonneg v2.1).symm⟩
  rw [hn] at v2 ⊢
  rw [Int.toNat_natCast]
  generalize hx : valBE (((bytesOf s).drop 6).take 2) = x at v6 ⊢
  by_cases h6 : (hl4 (bytesOf s) : Int) > (s.size : Int)
  · rw [if_pos h6, if_pos (.inl (by omega)), ipv4_Decode.j1, if_pos rfl]
    rfl
  rw [if_neg h6]
  by_cases h7 : (n : Int) > (s.size : Int)
  · rw [if_pos (show (bytesOf s).length < hl4 (bytesOf s) ∨ ((bytesOf s).length : Int) < n from .inr (by omega)), ipv4_Decode.j1, if_pos (by simp; omega)]
    rfl
  rw [if_neg (show ¬ ((bytesOf s).length < hl4 (bytesOf s) ∨ ((bytesOf s).length : Int) < n) by omega), ipv4_Decode.j1, if_neg (by simp; omega)]
  by_cases h8 : (n : Int) < (hl4 (bytesOf s) : Int)
  · rw [if_pos h8, if_pos h8]
    rfl
  rw [if_neg h8, if_neg h8, if_pos (by omega), if_pos (by omega), Int.toNat_natCast]
  have eS : s.extract 0 (hl4 (bytesOf s)) = strOfNums ((bytesOf s).take (hl4 (bytesOf s))) := by
    rw [← str_bytes (s.extract 0 (hl4 (bytesOf s))), bytesOf_extract, List.drop_zero, Nat.sub_zero]
  rw [eS, sum_is _ (by rw [strOfNums_size, List.length_take]; omega) q (by rw [strOfNums_size, List.length_take]; omega)]
  simp only [bs]
  by_cases h9 : sumOf (strOfNums ((bytesOf s).take (hl4 (bytesOf s)))) = 0
  case neg =>
    rw [if_neg h9, if_pos (show sumOf (strOfNums ((bytesOf s).take (hl4 (bytesOf s)))) ≠ 0 from h9)]
    rfl
  rw [if_pos h9, if_neg (show ¬ sumOf (strOfNums ((bytesOf s).take (hl4 (bytesOf s)))) ≠ 0 from fun z => z h9)]
  simp only [t12, a12, t16, a16, bs]
  rw [if_pos (by omega)]
  have zo : (s.extract 20 (hl4 (bytesOf s))).size = hl4 (bytesOf s) - 20 := by rw [ByteArray.size_extract]; omega
  have ho := options_is (s.extract 20 (hl4 (bytesOf s))) (by omega) (q - (hl4 (bytesOf s) - 20) - 1)
  rw [zo, show q - (hl4 (bytesOf s) - 20) - 1 + (hl4 (bytesOf s) - 20) + 1 = q by omega, bytesOf_extract, ← List.drop_take] at ho
  rw [ho]
  simp only [bs]
  generalize opts4 (hl4 (bytesOf s) - 20 + 1) (((bytesOf s).take (hl4 (bytesOf s))).drop 20) [] = o
  cases ho2 : o.2 with
  | false =>
    rw [if_neg (by decide), if_pos (.inl rfl)]
    rfl
  | true =>
    rw [if_pos rfl, and15 x v6.1 (by omega), and14 x v6.1 (by omega), and13 x v6.1 (by omega), and8191 x v6.1 (by omega)]
    by_cases hz : x / 32768 % 2 = 0
    case neg =>
      rw [if_neg (by omega), if_pos (.inr hz)]
      rfl
    rw [if_pos (by omega), if_neg (show ¬ (true = false ∨ x / 32768 % 2 ≠ 0) from fun z => z.elim (fun y => by cases y) (fun y => y hz)), if_pos (by omega), if_pos (by omega), w64 (n := 8 * (x % 8192)) (by omega) (by omega)]
    have e14 : (x / 16384 % 2 * 16384 != 0) = (x / 16384 % 2 != 0) := by
      rw [Bool.eq_iff_iff, bne_iff_ne, bne_iff_ne]; omega
    have e13 : (x / 8192 % 2 * 8192 != 0) = (x / 8192 % 2 != 0) := by
      rw [Bool.eq_iff_iff, bne_iff_ne, bne_iff_ne]; omega
    have eP : s.extract (hl4 (bytesOf s)) n = strOfNums (((bytesOf s).take n).drop (hl4 (bytesOf s))) := by
      rw [← str_bytes (s.extract (hl4 (bytesOf s)) n), bytesOf_extract, List.drop_take]
    rw [e14, e13, Int.toNat_natCast, eP]
end Go.Proofs.YtocobalkikkhlaaDoor.Pure

/-! ### Ip4R -/
set_option linter.unusedVariables false
set_option linter.unusedSimpArgs false
namespace Go.Proofs.YtocobalkikkhlaaDoor.Pure
open Go.RowKit Go.Proofs.YtocobalkikkhlaaDoor.X Go.Proofs.YtocobalkikkhlaaDoorW.PrintWords Go.Proofs.YtocobalkikkhlaaDoorW.PrintLast Go.Proofs.YtocobalkikkhlaaDoorW.PrintMore

theorem tot_two4 (n : Int) (h0 : 0 ≤ n) (h1 : n < 65536) : tot (beN 2 n) = n := by
  show n / 256 ^ 1 % 256 * 256 + n / 256 ^ 0 % 256 + 0 = n
  omega
theorem sum_zero4 (A B : List Int) (hl : A.length % 2 = 0) (hA : ∀ x ∈ A, 0 ≤ x ∧ x < 256) (hB : ∀ x ∈ B, 0 ≤ x ∧ x < 256) :
    sumOf (strOfNums (A ++ beN 2 (sumOf (strOfNums (A ++ [0, 0] ++ B))) ++ B)) = 0 := by
  have hS := sumOf_range (strOfNums (A ++ [0, 0] ++ B))
  have r : ∀ m : List Int, (∀ x ∈ m, 0 ≤ x ∧ x < 256) → ∀ x ∈ A ++ m ++ B, 0 ≤ x ∧ x < 256 := by
    intro m hm x hx
    simp only [List.mem_append] at hx
    rcases hx with (hx | hx) | hx
    · exact hA x hx
    · exact hm x hx
    · exact hB x hx
  have rz := r [0, 0] (by intro x hx; simp at hx; omega)
  have rs := r (beN 2 (sumOf (strOfNums (A ++ [0, 0] ++ B)))) (beN_range _ _)
  have p : ∀ m : List Int, m.length = 2 → tot (A ++ m ++ B) = tot A + tot m + tot B := by
    intro m hm
    rw [tot_append _ _ (by simp [hm]; omega), tot_append _ _ hl]
  have h0 := tot_nonneg _ rz
  have ec : sumOf (strOfNums (A ++ [0, 0] ++ B)) = 65535 - canon (tot (A ++ [0, 0] ++ B)) := by
    unfold sumOf
    rw [bytesOf_strOfNums _ rz]
  have e1 : tot (A ++ beN 2 (sumOf (strOfNums (A ++ [0, 0] ++ B))) ++ B) = tot (A ++ [0, 0] ++ B) + sumOf (strOfNums (A ++ [0, 0] ++ B)) := by
    rw [p _ (beN_length _ _), p [0, 0] rfl, tot_two4 _ hS.1 (by omega)]
    show _ = tot A + (0 * 256 + 0 + 0) + tot B + _
    omega
  generalize hs : sumOf (strOfNums (A ++ [0, 0] ++ B)) = S at *
  unfold sumOf
  rw [bytesOf_strOfNums _ rs, e1, ec]
  unfold canon
  generalize tot (A ++ [0, 0] ++ B) = t at h0
  by_cases hT : t = 0
  · rw [if_pos hT, hT]; decide
  · rw [if_neg hT, if_neg (by omega)]; omega
theorem val24 (n : Int) (h0 : 0 ≤ n) (h1 : n < 65536) : valBE (beN 2 n) = n := by
  rw [valBE_beN 2 n h0]; exact Int.emod_eq_of_lt h0 (by simpa using h1)
theorem val44 (n : Int) (h0 : 0 ≤ n) (h1 : n < 4294967296) : valBE (beN 4 n) = n := by
  rw [valBE_beN 4 n h0]; exact Int.emod_eq_of_lt h0 (by simpa using h1)
section
variable (c id tt pr : Int) (dn mr : Bool) (off : Int) (s2 d2 : Int)
theorem h4A_range (hN : okN4 c id tt pr off) (o p : ByteArray) (ho : o.size ≤ 40) : ∀ x ∈ h4A c id tt pr dn mr off o p, 0 ≤ x ∧ x < 256 := by
  obtain ⟨hc, htt, hpr, -, -, -⟩ := hN
  intro x hx
  unfold h4A at hx
  simp only [List.mem_append, List.mem_singleton] at hx
  rcases hx with (((((hx | hx) | hx) | hx) | hx) | hx) | hx
  · omega
  · omega
  · exact beN_range _ _ x hx
  · exact beN_range _ _ x hx
  · exact beN_range _ _ x hx
  · omega
  · omega
theorem h4B_range (v : Bool) (s1 s2 : Int) (w : Bool) (d1 d2 : Int) (o : ByteArray) : ∀ x ∈ h4B v s1 s2 w d1 d2 o, 0 ≤ x ∧ x < 256 := by
  intro x hx
  unfold h4B at hx
  simp only [List.mem_append] at hx
  rcases hx with (hx | hx) | hx
  · exact adrB_range _ _ _ x hx
  · exact adrB_range _ _ _ x hx
  · exact bytesOf_range _ x hx
theorem e4_bytes (hN : okN4 c id tt pr off) (o p : ByteArray) (ho : o.size ≤ 40) (v : Bool) (s1 s2 : Int) (w : Bool) (d1 d2 : Int) :
    bytesOf (e4Of c id tt pr dn mr off v s1 s2 w d1 d2 o p) = h4A c id tt pr dn mr off o p ++ beN 2 (sumOf (strOfNums (h4A c id tt pr dn mr off o p ++ [0, 0] ++ h4B v s1 s2 w d1 d2 o))) ++ h4B v s1 s2 w d1 d2 o ++ bytesOf p := by
  unfold e4Of
  apply bytesOf_strOfNums
  intro x hx
  simp only [List.mem_append] at hx
  rcases hx with ((hx | hx) | hx) | hx
  · exact h4A_range c id tt pr dn mr off hN o p ho x hx
  · exact beN_range _ _ x hx
  · exact h4B_range _ _ _ _ _ _ _ x hx
  · exact bytesOf_range _ x hx
theorem dec_enc4 (hN : okN4 c id tt pr off) (hs : 0 ≤ s2 ∧ s2 ≤ 4294967295) (hd : 0 ≤ d2 ∧ d2 ≤ 4294967295) (o p : ByteArray) (ho : o.size ≤ 40) (ho4 : o.size % 4 = 0) (hp : 20 + o.size + p.size ≤ 65535)
    (l : List S125) (hopt : opts4 (o.size + 1) (bytesOf o) [] = (l, true)) (T : List Int) :
    dec4Of (bytesOf (e4Of c id tt pr dn mr off false 0 s2 false 0 d2 o p) ++ T) = (c, id, tt, pr, dn, mr, off, false, 0, s2, false, 0, d2, l, p, 0) := by
  have hbo := bytesOf_length o
  have hbp := bytesOf_length p
  rw [e4_bytes c id tt pr dn mr off hN o p ho]
  have hz := sum_zero4 (h4A c id tt pr dn mr off o p) (h4B false 0 s2 false 0 d2 o) (by unfold h4A; simp [beN_length]) (h4A_range c id tt pr dn mr off hN o p ho) (h4B_range _ _ _ _ _ _ _)
  generalize sumOf (strOfNums (h4A c id tt pr dn mr off o p ++ [0, 0] ++ h4B false 0 s2 false 0 d2 o)) = S at hz ⊢
  obtain ⟨hc, htt, hpr, hid, hoff, h8⟩ := hN
  have hfr := flg_range dn mr off hoff.1 hoff.2
  have zH : (h4A c id tt pr dn mr off o p ++ beN 2 S ++ h4B false 0 s2 false 0 d2 o).length = 20 + o.size := by unfold h4A h4B adrB; simp [beN_length]; omega
  generalize hL : h4A c id tt pr dn mr off o p ++ beN 2 S ++ h4B false 0 s2 false 0 d2 o ++ bytesOf p ++ T = L
  have hLl : L.length = 20 + o.size + p.size + T.length := by rw [← hL, List.length_append, List.length_append, zH]; omega
  have g0 : L.getD 0 0 = 64 + (20 + (o.size : Int)) / 4 := by rw [← hL]; rfl
  have g1 : L.getD 1 0 = c := by rw [← hL]; rfl
  have g8 : L.getD 8 0 = tt := by rw [← hL]; rfl
  have g9 : L.getD 9 0 = pr := by rw [← hL]; rfl
  have v2 : valBE ((L.drop 2).take 2) = 20 + (o.size : Int) + p.size := by
    rw [show (L.drop 2).take 2 = beN 2 (20 + (o.size : Int) + p.size) by rw [← hL]; rfl, val24 _ (by omega) (by omega)]
  have v4 : valBE ((L.drop 4).take 2) = id := by
    rw [show (L.drop 4).take 2 = beN 2 id by rw [← hL]; rfl, val24 _ (by omega) (by omega)]
  have v6 : valBE ((L.drop 6).take 2) = flg off dn mr := by
    rw [show (L.drop 6).take 2 = beN 2 (flg off dn mr) by rw [← hL]; rfl, val24 _ (by omega) (by omega)]
  have v12 : valBE ((L.drop 12).take 4) = s2 := by
    rw [show (L.drop 12).take 4 = beN 4 s2 by rw [← hL]; rfl, val44 _ (by omega) (by omega)]
  have v16 : valBE ((L.drop 16).take 4) = d2 := by
    rw [show (L.drop 16).take 4 = beN 4 d2 by rw [← hL]; rfl, val44 _ (by omega) (by omega)]
  have hh : hl4 L = 20 + o.size := by unfold hl4; rw [g0]; omega
  have tH : L.take (20 + o.size) = h4A c id tt pr dn mr off o p ++ beN 2 S ++ h4B false 0 s2 false 0 d2 o := by
    rw [← hL, List.append_assoc _ (bytesOf p) T, List.take_left' zH]
  have dO : (h4A c id tt pr dn mr off o p ++ beN 2 S ++ h4B false 0 s2 false 0 d2 o).drop 20 = bytesOf o := rfl
  have tP : (L.take (20 + o.size + p.size)).drop (20 + o.size) = bytesOf p := by
    rw [← hL, List.take_left' (by rw [List.length_append, zH]; omega), List.drop_left' zH]
  have eo : 20 + o.size - 20 = o.size := by omega
  have et : (20 + (o.size : Int) + p.size).toNat = 20 + o.size + p.size := by omega
  have er : Int.tmod off 8 = off % 8 := Int.tmod_eq_emod_of_nonneg hoff.1
  unfold dec4Of
  rw [hh, g0, g1, g8, g9, v2, v4, v6, v12, v16, tH, dO, hz, et, tP, eo, hopt, if_neg (by omega), if_neg (show ¬ ((64 + (20 + (o.size : Int)) / 4) / 16 ≠ 4 ∨ 20 + o.size < 20) by omega), if_neg (show ¬ (L.length < 20 + o.size ∨ (L.length : Int) < 20 + (o.size : Int) + p.size) by omega), if_neg (by omega), if_neg (by simp)]
  have f1 : flg off dn mr / 32768 % 2 = 0 := by unfold flg; split <;> split <;> omega
  have f2 : (flg off dn mr / 16384 % 2 != 0) = dn := by
    unfold flg
    cases dn <;> cases mr <;> simp <;> omega
  have f3 : (flg off dn mr / 8192 % 2 != 0) = mr := by
    unfold flg
    cases dn <;> cases mr <;> simp <;> omega
  have f4 : 8 * (flg off dn mr % 8192) = off := by unfold flg; split <;> split <;> omega
  rw [if_neg (show ¬ ((l, true).2 = false ∨ flg off dn mr / 32768 % 2 ≠ 0) from fun z => z.elim (fun y => by cases y) (fun y => y f1)), f2, f3, f4, str_bytes]
end
end Go.Proofs.YtocobalkikkhlaaDoor.Pure

/-! ### Ip60 -/
set_option linter.unusedVariables false
set_option linter.unusedSimpArgs false
namespace Go.Proofs.YtocobalkikkhlaaDoor.Pure
open Go.RowKit Go.Proofs.YtocobalkikkhlaaDoor.X Go.Proofs.YtocobalkikkhlaaDoorW.PrintWords Go.Proofs.YtocobalkikkhlaaDoorW.PrintLast Go.Proofs.YtocobalkikkhlaaDoorW.PrintMore

def isExt (n : Int) : Prop := n = 0 ∨ n = 43 ∨ n = 60
instance (n : Int) : Decidable (isExt n) := by unfold isExt; infer_instance
theorem ext_is (n : Int) : ipv6_extension.f n = some (decide (isExt n)) := by
  unfold ipv6_extension.f isExt
  by_cases h0 : n = 0
  · rw [if_pos h0]; simp [h0]
  · rw [if_neg h0]
    by_cases h1 : n = 43
    · rw [if_pos h1]; simp [h1]
    · rw [if_neg h1]
      by_cases h2 : n = 60
      · simp [h2]
      · simp [h0, h1, h2]
theorem within_loop (t : Int) (l : List Int) (hl : l.length ≤ 4611686018427387904) : ∀ (m i k : Nat), i + m = l.length →
    ipv6_within.l0 (k + m + 1) t l l.length i = some (decide (∀ x ∈ l.drop i, 0 ≤ x ∧ x ≤ t))
  | 0, i, k, h => by
    unfold ipv6_within.l0
    rw [if_neg (by omega), List.drop_eq_nil_of_le (by omega)]
    simp
  | m + 1, i, k, h => by
    have hlt : i < l.length := by omega
    have hrd : rd l (i : Int) = l[i] := by unfold rd; rw [Int.toNat_natCast, List.getD_eq_getElem?_getD, List.getElem?_eq_getElem hlt]; rfl
    have ih := within_loop t l hl m (i + 1) k (by omega)
    rw [show k + (m + 1) + 1 = (k + m + 1) + 1 by omega]
    unfold ipv6_within.l0
    rw [if_pos (by omega), if_pos (by omega), if_pos (by omega), hrd, List.drop_eq_getElem_cons hlt, w64 (n := (i : Int) + 1) (by omega) (by omega), show (i : Int) + 1 = ((i + 1 : Nat) : Int) by omega, ih]
    by_cases a : l[i] < 0
    · rw [if_pos a]
      congr 1
      rw [eq_comm, decide_eq_false_iff_not]
      intro h2
      have := h2 l[i] (List.mem_cons.mpr (.inl rfl))
      omega
    · rw [if_neg a]
      by_cases b : l[i] > t
      · rw [if_pos b]
        congr 1
        rw [eq_comm, decide_eq_false_iff_not]
        intro h2
        have := h2 l[i] (List.mem_cons.mpr (.inl rfl))
        omega
      · rw [if_neg b]
        congr 1
        apply decide_eq_decide.mpr
        constructor
        · intro h2 x hx
          rcases List.mem_cons.mp hx with e | e
          · rw [e]; omega
          · exact h2 x e
        · intro h2 x hx
          exact h2 x (List.mem_cons.mpr (.inr hx))
theorem within_is (t : Int) (l : List Int) (hl : l.length ≤ 1000) (k : Nat) (hk : l.length + 1 ≤ k) : ipv6_within.f k t l = some (decide (∀ x ∈ l, 0 ≤ x ∧ x ≤ t)) := by
  have h := within_loop t l (by omega) l.length 0 (k - l.length - 1) (by omega)
  rw [show k - l.length - 1 + l.length + 1 = k by omega] at h
  unfold ipv6_within.f
  simpa using h
theorem within1 (t a : Int) (k : Nat) (hk : 10 ≤ k) : ipv6_within.f k t [a] = some (decide (0 ≤ a ∧ a ≤ t)) := by
  rw [within_is t [a] (by simp) k (by simp; omega)]
  simp
theorem within3 (t a b c : Int) (k : Nat) (hk : 10 ≤ k) : ipv6_within.f k t [a, b, c] = some (decide ((0 ≤ a ∧ a ≤ t) ∧ (0 ≤ b ∧ b ≤ t) ∧ (0 ≤ c ∧ c ≤ t))) := by
  rw [within_is t [a, b, c] (by simp) k (by simp; omega)]
  congr 1
  apply decide_eq_decide.mpr
  constructor
  · intro h
    exact ⟨h a (by simp), h b (by simp), h c (by simp)⟩
  · rintro ⟨h1, h2, h3⟩ x hx
    simp only [List.mem_cons, List.not_mem_nil, or_false] at hx
    rcases hx with rfl | rfl | rfl
    · exact h1
    · exact h2
    · exact h3
theorem put_ok (n : Int) (z : Nat) (h1 : 1 ≤ z) (h7 : z ≤ 7) (h0 : 0 ≤ n) (hn : n < 256 ^ z) : putOf n z = strOfNums (beN z n) := by
  unfold putOf
  rw [if_pos ⟨by omega, by omega, h0, by rw [Int.toNat_natCast]; exact hn⟩, Int.toNat_natCast]
theorem put1_ok (n : Int) (h0 : 0 ≤ n) (hn : n ≤ 255) : putOf n 1 = strOfNums [n] := by
  have h := put_ok n 1 (by omega) (by omega) h0 (by omega)
  rw [show ((1 : Nat) : Int) = 1 from rfl] at h
  rw [h]
  simp [beN]
  congr 1
  congr 1
  omega
def joinOf : List S93 → ByteArray
  | [] => ⟨#[]⟩
  | x :: r => putOf x.f0 x.f1 ++ joinOf r
theorem rd64 (l : List S93) (i : Nat) (h : i < l.length) : rd_T93 l (i : Int) = l[i] := by
  unfold rd_T93
  rw [Int.toNat_natCast, List.getD_eq_getElem?_getD, List.getElem?_eq_getElem h]
  rfl
theorem join_loop (l : List S93) (hl : l.length ≤ 1000) : ∀ (m i k : Nat) (x : ByteArray), i + m = l.length → x.size ≤ 7 * i →
    ipv6_join.l0 (k + m + 11) x l l.length i = some (x ++ joinOf (l.drop i))
  | 0, i, k, x, h, hx => by
    rw [show k + 0 + 11 = (k + 10) + 1 by omega]
    unfold ipv6_join.l0
    rw [if_neg (by omega), List.drop_eq_nil_of_le (by omega)]
    simp only [joinOf, nil_app]
  | m + 1, i, k, x, h, hx => by
    have hlt : i < l.length := by omega
    have hp := putOf_len l[i].f0 l[i].f1
    rw [show k + (m + 1) + 11 = (k + m + 11) + 1 by omega]
    unfold ipv6_join.l0
    rw [if_pos (by omega), if_pos (by omega), if_pos (by omega), rd64 l i hlt, put_is _ _ _ (by omega)]
    simp only [bs]
    rw [if_pos (by omega), w64 (n := (i : Int) + 1) (by omega) (by omega), show (i : Int) + 1 = ((i + 1 : Nat) : Int) by omega, join_loop l hl m (i + 1) k _ (by omega) (by rw [size_append]; omega), List.drop_eq_getElem_cons hlt]
    simp only [joinOf, app_assoc]
theorem join_is (l : List S93) (hl : l.length ≤ 1000) (k : Nat) (hk : l.length + 11 ≤ k) : ipv6_join.f k l = some (joinOf l) := by
  have h := join_loop l hl l.length 0 (k - l.length - 11) ⟨#[]⟩ (by omega) (by decide)
  rw [show k - l.length - 11 + l.length + 11 = k by omega] at h
  unfold ipv6_join.f
  rw [show ((0 : Nat) : Int) = 0 from rfl, List.drop_zero, app_nil] at h
  exact h
section
variable (h n : Int) (v : Bool) (s1 s2 : Int) (w : Bool) (d1 d2 : Int) (p : ByteArray)
def ok6 : Prop := (0 ≤ h ∧ h ≤ 255) ∧ (0 ≤ n ∧ n ≤ 255) ∧ ¬ isExt n ∧ n ≠ 44 ∧ v = true ∧ w = true
instance : Decidable (ok6 h n v w) := by unfold ok6; infer_instance
def h6 : List Int := beN 4 1610612736 ++ beN 2 p.size ++ [n] ++ [h] ++ adrB v s1 s2 ++ adrB w d1 d2
/-- What Encode answers for a packet with no headers and no fragment. -/
def enc6Of : ByteArray × Int := if ok6 h n v w then (if (p.size : Int) > 65535 then (⟨#[]⟩, 3) else (strOfNums (h6 h n v s1 s2 w d1 d2 p ++ bytesOf p), 0)) else (⟨#[]⟩, 4)
theorem check6 (k : Nat) (hk : 30 ≤ k) : ipv6_check.f k 0 0 h n v s1 s2 w d1 d2 [] false 0 0 false p = some (if ok6 h n v w then 0 else 4) := by
  obtain ⟨q, rfl⟩ : ∃ q, k = q + 5 := ⟨k - 5, by omega⟩
  have no0 : ∀ k, ipv6_check.j0 (k + 1) true 0 0 h n v s1 s2 w d1 d2 [] false 0 0 false p = some 4 := fun k => by rw [ipv6_check.j0, if_pos rfl]
  have no1 : ∀ k, ipv6_check.j1 (k + 1) true 0 0 h n v s1 s2 w d1 d2 [] false 0 0 false p = some 4 := fun k => by rw [ipv6_check.j1, if_pos rfl]
  have yes1 : ∀ k, ipv6_check.j1 (k + 4) false 0 0 h n v s1 s2 w d1 d2 [] false 0 0 false p = some 0 := fun k => by
    rw [ipv6_check.j1, if_neg (by decide), if_neg (by decide), ipv6_check.j2, if_neg (by decide), if_neg (by decide), if_pos rfl, if_pos rfl, ipv6_check.j3, if_neg (by decide), if_neg (by decide), ipv6_check.l0, if_neg (by decide)]
  unfold ipv6_check.f
  rw [within3 _ _ _ _ _ (by omega), within1 _ _ _ (by omega)]
  simp only [bs, decide_eq_true_eq]
  by_cases hr : (0 ≤ h ∧ h ≤ 255) ∧ (0 ≤ n ∧ n ≤ 255)
  · rw [if_pos ⟨by omega, hr.1, hr.2⟩, show (!decide ((0 : Int) ≤ 0 ∧ (0 : Int) ≤ 1048575)) = false by decide, ipv6_check.j0, if_neg (by decide), ext_is]
    simp only [bs, decide_eq_true_eq]
    by_cases he : isExt n
    · rw [if_pos he, no1, if_neg (fun z => z.2.2.1 he)]
    · rw [if_neg he]
      by_cases h4 : n = 44
      · rw [if_pos h4, no1, if_neg (fun z => z.2.2.2.1 h4)]
      · rw [if_neg h4]
        cases v with
        | false => rw [if_neg (by decide), no1, if_neg (fun z => by have := z.2.2.2.2.1; cases this)]
        | true =>
          rw [if_pos rfl]
          cases w with
          | false => rw [Bool.not_false, no1, if_neg (fun z => by have := z.2.2.2.2.2; cases this)]
          | true => rw [Bool.not_true, yes1, if_pos ⟨hr.1, hr.2, he, h4, rfl, rfl⟩]
  · rw [if_neg (fun z => hr z.2), no0, if_neg (fun z => hr ⟨z.1, z.2.1⟩)]
theorem encode6 (hp : p.size ≤ 4611686018427387904) (k : Nat) (hk : 100 ≤ k) :
    ipv6_Encode.f k 0 0 h n v s1 s2 w d1 d2 [] false 0 0 false p = some (enc6Of h n v s1 s2 w d1 d2 p) := by
  obtain ⟨q, rfl⟩ : ∃ q, k = q + 5 := ⟨k - 5, by omega⟩
  unfold ipv6_Encode.f enc6Of
  rw [check6 h n v s1 s2 w d1 d2 p _ (by omega)]
  simp only [bs]
  by_cases ho : ok6 h n v w
  · rw [if_pos ho, if_pos ho, if_pos rfl, ipv6_Encode.l0, if_neg (by decide), if_neg (by decide), ipv6_Encode.j1, if_pos (by decide), ipv6_Encode.l1, if_neg (by decide), if_neg (by decide), ipv6_Encode.j3, app_nil, List.nil_append,
      if_pos (by rw [show (⟨#[]⟩ : ByteArray).size = 0 from rfl]; omega)]
    by_cases hs : (p.size : Int) > 65535
    · rw [if_pos hs, if_pos hs]
    · have a1 := adrB_len v s1 s2
      have a2 := adrB_len w d1 d2
      have a1' : (adrB v s1 s2).length ≤ 16 := by rw [a1]; split <;> omega
      have a2' : (adrB w d1 d2).length ≤ 16 := by rw [a2]; split <;> omega
      have b4 : putOf (1610612736 : Int) 4 = strOfNums (beN 4 1610612736) := put_ok 1610612736 4 (by omega) (by omega) (by omega) (by omega)
      have b2 := put_ok (p.size : Int) 2 (by omega) (by omega) (by omega) (by omega)
      rw [show ((2 : Nat) : Int) = 2 from rfl] at b2
      rw [if_neg hs, if_neg hs, if_pos (show (0 : Int) < (([n] : List Int).length : Int) by simp), show Go.bits .or .i64 (Go.bits .or .i64 1610612736 (wrap64 (0 * 1048576))) 0 = 1610612736 by decide +kernel, show rd [n] 0 = n from rfl, join_is _ (by simp) _ (by simp; omega), aBytes_is _ _ _ _ (by omega), aBytes_is _ _ _ _ (by omega)]
      simp only [bs, joinOf, nil_app]
      have z : ∀ q : List Int, (strOfNums q).size = q.length := strOfNums_size
      rw [b4, b2, put1_ok _ ho.2.1.1 ho.2.1.2, put1_ok _ ho.1.1 ho.1.2, if_pos (by simp only [size_append, z, beN_length, List.length_cons, List.length_nil]; omega), if_pos (by simp only [size_append, z, beN_length, List.length_cons, List.length_nil]; omega), if_pos (by simp only [size_append, z, beN_length, List.length_cons, List.length_nil]; omega)]
      unfold h6
      simp only [strOfNums_append, str_bytes, app_assoc]
  · rw [if_neg ho, if_neg ho, if_neg (by decide)]
end
end Go.Proofs.YtocobalkikkhlaaDoor.Pure

/-! ### Ip6K -/
set_option linter.unusedVariables false
set_option linter.unusedSimpArgs false
namespace Go.Proofs.YtocobalkikkhlaaDoor.Pure
open Go.RowKit Go.Proofs.YtocobalkikkhlaaDoor.X Go.Proofs.YtocobalkikkhlaaDoorW.PrintWords Go.Proofs.YtocobalkikkhlaaDoorW.PrintLast Go.Proofs.YtocobalkikkhlaaDoorW.PrintMore

theorem rleft_is (s : ByteArray) (i : Nat) (hs : s.size ≤ 4611686018427387904) (hi : i ≤ s.size) : field_Reader_Left.f s (i : Int) 0 = some ((s.size : Int) - i, s, (i : Int), 0) := by
  unfold field_Reader_Left.f
  rw [w64 (n := (s.size : Int) - i) (by omega) (by omega)]
theorem aF16 (s : ByteArray) (i : Nat) (hi : i + 16 ≤ s.size) (k : Nat) (hk : 10 ≤ k) : address_FromBytes.f k (s.extract i (i + 16)) = some (true, valBE (((bytesOf s).drop i).take 8), valBE (((bytesOf s).drop (i + 8)).take 8), 0) := by
  rw [aFrom16 _ (by rw [ByteArray.size_extract]; omega) k hk, bytesOf_extract, show i + 16 - i = 16 by omega, List.take_take, List.drop_take, List.drop_drop]
  rfl
theorem val88 (n : Int) (h0 : 0 ≤ n) (h1 : n < 18446744073709551616) : valBE (beN 8 n) = n := by
  rw [valBE_beN 8 n h0]; exact Int.emod_eq_of_lt h0 (by simpa using h1)
theorem val2p (n : Int) (h0 : 0 ≤ n) (h1 : n < 65536) : valBE (beN 2 n) = n := by
  rw [valBE_beN 2 n h0]; exact Int.emod_eq_of_lt h0 (by simpa using h1)
theorem dec6 (h n : Int) (s1 s2 d1 d2 : Int) (p : ByteArray) (ho : ok6 h n true true) (hp : p.size ≤ 65535) (h1 : 0 ≤ s1 ∧ s1 < 18446744073709551616) (h2 : 0 ≤ s2 ∧ s2 < 18446744073709551616) (h3 : 0 ≤ d1 ∧ d1 < 18446744073709551616) (h4 : 0 ≤ d2 ∧ d2 < 18446744073709551616) (k : Nat) (hk : 200 ≤ k) :
    ipv6_Decode.f k (strOfNums (h6 h n true s1 s2 true d1 d2 p ++ bytesOf p)) = some (0, 0, h, n, true, s1, s2, true, d1, d2, [], false, 0, 0, false, p, 0) := by
  obtain ⟨q, rfl⟩ : ∃ q, k = q + 2 := ⟨k - 2, by omega⟩
  have hbp := bytesOf_length p
  have hrg : ∀ x ∈ h6 h n true s1 s2 true d1 d2 p ++ bytesOf p, 0 ≤ x ∧ x < 256 := by
    intro x hx
    unfold h6 at hx
    simp only [List.mem_append, List.mem_singleton] at hx
    obtain ⟨q1, q2, -⟩ := ho
    rcases hx with (((((hx | hx) | hx) | hx) | hx) | hx) | hx
    · exact beN_range _ _ x hx
    · exact beN_range _ _ x hx
    · omega
    · omega
    · exact adrB_range _ _ _ x hx
    · exact adrB_range _ _ _ x hx
    · exact bytesOf_range _ x hx
  have zL : (h6 h n true s1 s2 true d1 d2 p).length = 40 := by unfold h6; simp [beN_length, adrB]
  generalize hS : strOfNums (h6 h n true s1 s2 true d1 d2 p ++ bytesOf p) = s
  have hb : bytesOf s = h6 h n true s1 s2 true d1 d2 p ++ bytesOf p := by rw [← hS]; exact bytesOf_strOfNums _ hrg
  have hsz : s.size = 40 + p.size := by rw [← hS, strOfNums_size, List.length_append, zL, hbp]
  have g6 : (bytesOf s).getD 6 0 = n := by rw [hb]; rfl
  have g7 : (bytesOf s).getD 7 0 = h := by rw [hb]; rfl
  have v0 : valBE (((bytesOf s).drop 0).take 4) = 1610612736 := by
    rw [show ((bytesOf s).drop 0).take 4 = beN 4 1610612736 by rw [hb]; rfl]
    decide +kernel
  have v4 : valBE (((bytesOf s).drop 4).take 2) = p.size := by
    rw [show ((bytesOf s).drop 4).take 2 = beN 2 p.size by rw [hb]; rfl, val2p _ (by omega) (by omega)]
  have v8 : valBE (((bytesOf s).drop 8).take 8) = s1 := by
    rw [show ((bytesOf s).drop 8).take 8 = beN 8 s1 by rw [hb]; rfl, val88 _ h1.1 h1.2]
  have v16 : valBE (((bytesOf s).drop 16).take 8) = s2 := by
    rw [show ((bytesOf s).drop 16).take 8 = beN 8 s2 by rw [hb]; rfl, val88 _ h2.1 h2.2]
  have v24 : valBE (((bytesOf s).drop 24).take 8) = d1 := by
    rw [show ((bytesOf s).drop 24).take 8 = beN 8 d1 by rw [hb]; rfl, val88 _ h3.1 h3.2]
  have v32 : valBE (((bytesOf s).drop 32).take 8) = d2 := by
    rw [show ((bytesOf s).drop 32).take 8 = beN 8 d2 by rw [hb]; rfl, val88 _ h4.1 h4.2]
  have ep : s.extract 40 (40 + p.size) = p := by
    apply bytesOf_inj
    rw [bytesOf_extract, hb, List.drop_left' zL, show 40 + p.size - 40 = p.size by omega, List.take_of_length_le (by omega)]
  have r0 := rint4 s 0 4 (q + 2) (by omega) (by omega) (by omega) (by omega) (by omega)
  have r4 := rint4 s 4 2 (q + 2) (by omega) (by omega) (by omega) (by omega) (by omega)
  have r6 := rint4 s 6 1 (q + 2) (by omega) (by omega) (by omega) (by omega) (by omega)
  have r7 := rint4 s 7 1 (q + 2) (by omega) (by omega) (by omega) (by omega) (by omega)
  have t8 := rtake4 s 8 16 (by omega) (by omega)
  have t24 := rtake4 s 24 16 (by omega) (by omega)
  have lf := rleft_is s 40 (by omega) (by omega)
  have a8 := aF16 s 8 (by omega) (q + 2) (by omega)
  have a24 := aF16 s 24 (by omega) (q + 2) (by omega)
  have t40 := rtake4 s 40 p.size (by omega) (by omega)
  rw [take1_4 _ _ (by rw [bytesOf_length]; omega)] at r6 r7
  rw [v0] at r0
  rw [v4] at r4
  rw [g6] at r6
  rw [g7] at r7
  rw [ep] at t40
  simp only [show ((0 : Nat) : Int) = 0 from rfl, show ((1 : Nat) : Int) = 1 from rfl, show ((2 : Nat) : Int) = 2 from rfl, show ((4 : Nat) : Int) = 4 from rfl, show ((16 : Nat) : Int) = 16 from rfl, Nat.reduceAdd, show ((6 : Nat) : Int) = 6 from rfl, show ((7 : Nat) : Int) = 7 from rfl, show ((8 : Nat) : Int) = 8 from rfl, show ((24 : Nat) : Int) = 24 from rfl, show ((40 : Nat) : Int) = 40 from rfl, v8, v16, v24, v32] at r0 r4 r6 r7 t8 t24 lf a8 a24 t40
  unfold ipv6_Decode.f
  rw [if_neg (by omega)]
  simp only [field_NewReader.f, bs, r0, r4]
  rw [if_pos (by decide)]
  simp only [bs, r6, r7, t8, t24, a8, a24, lf]
  rw [if_neg (by omega), t40]
  simp only [bs]
  rw [show Go.bits .and .i64 (1610612736 / 1048576) 255 = 0 by decide +kernel, show Go.bits .and .i64 1610612736 1048575 = 0 by decide +kernel]
  unfold ipv6_headers.f
  rw [ipv6_headers.l0, ext_is]
  simp only [bs, decide_eq_true_eq]
  rw [if_neg ho.2.2.1, show (n != 44) = true from bne_iff_ne.mpr ho.2.2.2.1, ipv6_headers.j1, if_pos rfl]
  simp only [bs]
end Go.Proofs.YtocobalkikkhlaaDoor.Pure

/-! ### PureTunnelNests -/
set_option linter.unusedVariables false
set_option linter.unusedSimpArgs false
namespace Go.Proofs.YtocobalkikkhlaaDoor.Pure
open Go.RowKit Go.Proofs.YtocobalkikkhlaaDoor.X Go.Proofs.YtocobalkikkhlaaDoorW.PrintWords Go.Proofs.YtocobalkikkhlaaDoorW.PrintLast Go.Proofs.YtocobalkikkhlaaDoorW.PrintMore

theorem hd_byte (s : ByteArray) (L : List Int) (x : Int) (h : bytesOf s = x :: L) : s.toList ≠ ([] : List UInt8) ∧ 0 < (s.size : Int) ∧ bt s 0 = x := by
  have hl := bytesOf_length s
  rw [h] at hl
  simp only [List.length_cons] at hl
  refine ⟨fun z => ?_, by omega, ?_⟩
  · have := (toList_nil s).mp z
    omega
  · have := bt_eq s 0
    rw [h] at this
    exact this
/-- The packet of a datagram, and that it is taken back. -/
theorem pack_taken (v : Bool) (s1 s2 : Int) (w : Bool) (d1 d2 : Int) (id : Int) (p : ByteArray) (hp : p.size ≤ 60000) (hid : 0 ≤ id ∧ id ≤ 65535)
    (h1 : 0 ≤ s1 ∧ s1 < 18446744073709551616) (h2 : 0 ≤ s2 ∧ s2 < 18446744073709551616) (h3 : 0 ≤ d1 ∧ d1 < 18446744073709551616) (h4 : 0 ≤ d2 ∧ d2 < 18446744073709551616) (hf : okFit v s1 s2 w d1 d2) :
    ∃ s : ByteArray, s.size ≤ 65000 ∧ 0 < s.size ∧ ((bt s 0 / 16 = 4) ∨ (bt s 0 / 16 = 6)) ∧ (∀ k, 66000 ≤ k → tunnel_Packet.f k v s1 s2 w d1 d2 47 64 p id = some (s, 0)) ∧
      (∀ k, 66000 ≤ k → intrusionlaw17_taken.f k s = some (v, s1, s2, w, d1, d2, 47, 64, p, true)) := by
  obtain ⟨ha, hb, rfl⟩ := hf
  have hbp := bytesOf_length p
  cases v with
  | true =>
    have ho : ok6 64 47 true true := ⟨by omega, by omega, by decide, by decide, rfl, rfl⟩
    have hz : (strOfNums (h6 64 47 true s1 s2 true d1 d2 p ++ bytesOf p)).size = 40 + p.size := by
      rw [strOfNums_size, List.length_append, hbp]; unfold h6; simp [beN_length, adrB]
    have hrg : ∀ x ∈ h6 64 47 true s1 s2 true d1 d2 p ++ bytesOf p, 0 ≤ x ∧ x < 256 := by
      intro x hx
      unfold h6 at hx
      simp only [List.mem_append, List.mem_singleton] at hx
      rcases hx with (((((hx | hx) | hx) | hx) | hx) | hx) | hx
      · exact beN_range _ _ x hx
      · exact beN_range _ _ x hx
      · omega
      · omega
      · exact adrB_range _ _ _ x hx
      · exact adrB_range _ _ _ x hx
      · exact bytesOf_range _ x hx
    obtain ⟨n1, n2, n3⟩ := hd_byte (strOfNums (h6 64 47 true s1 s2 true d1 d2 p ++ bytesOf p)) ((h6 64 47 true s1 s2 true d1 d2 p ++ bytesOf p).drop 1) (1610612736 / 256 ^ 3 % 256) (by rw [bytesOf_strOfNums _ hrg]; rfl)
    refine ⟨_, by rw [hz]; omega, by rw [hz]; omega, .inr (by rw [n3]; decide), ?_, ?_⟩
    · intro k hk
      unfold tunnel_Packet.f
      rw [if_pos rfl, encode6 64 47 true s1 s2 true d1 d2 p (by omega) k (by omega)]
      simp only [bs]
      unfold enc6Of
      rw [if_pos ho, if_neg (by omega)]
    · intro k hk
      unfold intrusionlaw17_taken.f
      rw [if_neg n1, if_pos n2, n3, if_neg (by decide), dec6 64 47 s1 s2 d1 d2 p ho (by omega) h1 h2 h3 h4 k (by omega)]
      simp only [bs, ipv6_Fragment.f, if_true]
      rfl
  | false =>
    have ha' : s1 = 0 ∧ s2 < 4294967296 := ha.elim (fun z => by cases z) (fun z => z)
    have hb' : d1 = 0 ∧ d2 < 4294967296 := hb.elim (fun z => by cases z) (fun z => z)
    obtain ⟨rfl, hs2⟩ := ha'
    obtain ⟨rfl, hd2⟩ := hb'
    have hN : okN4 0 id 64 47 0 := ⟨by omega, by omega, by omega, hid, by omega, by decide⟩
    have ho : ok4 0 id 64 47 0 false 0 s2 false 0 d2 := ⟨hN, ⟨rfl, rfl, by omega⟩, ⟨rfl, rfl, by omega⟩⟩
    have hb4 := e4_bytes 0 id 64 47 false false 0 hN ⟨#[]⟩ p (by decide) false 0 s2 false 0 d2
    have hz : (e4Of 0 id 64 47 false false 0 false 0 s2 false 0 d2 ⟨#[]⟩ p).size = 20 + p.size := by
      rw [← bytesOf_length, hb4]; unfold h4A h4B; simp [beN_length, adrB, bytesOf_nil, hbp]; omega
    obtain ⟨n1, n2, n3⟩ := hd_byte (e4Of 0 id 64 47 false false 0 false 0 s2 false 0 d2 ⟨#[]⟩ p) ((h4A 0 id 64 47 false false 0 ⟨#[]⟩ p ++ beN 2 (sumOf (strOfNums (h4A 0 id 64 47 false false 0 ⟨#[]⟩ p ++ [0, 0] ++ h4B false 0 s2 false 0 d2 ⟨#[]⟩))) ++ h4B false 0 s2 false 0 d2 ⟨#[]⟩ ++ bytesOf p).drop 1) 69 (by rw [hb4]; rfl)
    refine ⟨_, by rw [hz]; omega, by rw [hz]; omega, .inl (by rw [n3]; decide), ?_, ?_⟩
    · intro k hk
      unfold tunnel_Packet.f
      rw [if_neg (by decide), encode4_nil 0 id 64 47 0 false 0 s2 false 0 d2 p (by omega) k (by omega)]
      simp only [bs]
      unfold enc0Of
      rw [if_pos ho, if_neg (by omega)]
    · intro k hk
      have hd := dec_enc4 0 id 64 47 false false 0 s2 d2 hN (by omega) (by omega) ⟨#[]⟩ p (by decide) (by decide) (by rw [show (⟨#[]⟩ : ByteArray).size = 0 from rfl]; omega) [] rfl []
      rw [List.append_nil] at hd
      unfold intrusionlaw17_taken.f
      rw [if_neg n1, if_pos n2, n3, if_pos (by decide), decode4_is _ (by rw [hz]; omega) k (by omega), hd]
      simp only [bs, ipv4_Fragment.f, if_true]
      rfl
theorem TunnelNests : intrusionlaw17_TunnelNests.Pure := by
  intro v s1 s2 w d1 d2 v' t1 t2 w' e1 e2 n s h1 h2 h3 h4 _ _ _ _ hn hs
  have hn' := wf_u16 hn
  obtain ⟨K, hK⟩ : ∃ K, 200000 = K := ⟨_, rfl⟩
  refine ⟨K + 1, ?_⟩
  unfold intrusionlaw17_TunnelNests.f
  rw [awake17_is (K + 1) (by omega)]
  simp only [bs]
  by_cases h : (s.size : Int) > 5000
  · rw [if_pos h]
  rw [if_neg h, wrapGre_is v s1 s2 w d1 d2 3 s (by omega) 7 (by omega) (by omega) true (K + 1) (by omega)]
  simp only [bs]
  unfold wgOf
  by_cases hf : okFit v s1 s2 w d1 d2
  case neg =>
    rw [if_neg hf, if_neg (by decide)]
  have hg := gre_back 3 (by omega) (by omega) s 7 true
  have hz : (greP 3 s 7 true).size = 12 + s.size := by
    have := bytesOf_length s
    unfold greP greL; rw [if_pos rfl, strOfNums_size]; simp [beN_length]; omega
  generalize greP 3 s 7 true = d at hg hz
  rw [if_pos hf, show (if (3 : Int) < 1 ∨ (3 : Int) < 3 then badD 4 else madeOf v s1 s2 w d1 d2 47 d) = madeOf v s1 s2 w d1 d2 47 d from if_neg (by decide), show madeOf v s1 s2 w d1 d2 47 d = (v, s1, s2, w, d1, d2, 47, 64, d, 0) from if_neg (by omega)]
  dsimp only
  rw [if_pos rfl, w64 (n := n) (by omega) (by omega)]
  obtain ⟨pk, p1, p2, p3, hpk, htk⟩ := pack_taken v s1 s2 w d1 d2 n d (by omega) (by omega) (wf_u64 h1) (wf_u64 h2) (wf_u64 h3) (wf_u64 h4) hf
  rw [hpk _ (by omega)]
  simp only [bs]
  rw [htk _ (by omega)]
  simp only [bs, if_true, beq_self_eq_true, Bool.not_true, Bool.or_self]
  rw [intrusionlaw17_TunnelNests.j0, if_neg (by decide), wrapIp_is _ _ _ _ _ _ pk _ (by omega), awake17_is K (by omega)]
  simp only [bs]
  unfold wiOf
  by_cases hy : okFit v' t1 t2 w' e1 e2
  case neg =>
    rw [if_neg hy, if_neg (by decide)]
  have fin : ∀ pr kd : Int, (pr = 4 ∧ kd = 1 ∨ pr = 41 ∧ kd = 2) → (inOf pr pk = some (kd, pk, 0)) →
      (if (madeOf v' t1 t2 w' e1 e2 pr pk).2.2.2.2.2.2.2.2.2 = 0 then ((tunnel_Inner.f K (madeOf v' t1 t2 w' e1 e2 pr pk).1 (madeOf v' t1 t2 w' e1 e2 pr pk).2.1 (madeOf v' t1 t2 w' e1 e2 pr pk).2.2.1 (madeOf v' t1 t2 w' e1 e2 pr pk).2.2.2.1 (madeOf v' t1 t2 w' e1 e2 pr pk).2.2.2.2.1 (madeOf v' t1 t2 w' e1 e2 pr pk).2.2.2.2.2.1 (madeOf v' t1 t2 w' e1 e2 pr pk).2.2.2.2.2.2.1 (madeOf v' t1 t2 w' e1 e2 pr pk).2.2.2.2.2.2.2.1 (madeOf v' t1 t2 w' e1 e2 pr pk).2.2.2.2.2.2.2.2.1).bind fun x => (intrusionlaw17_taken.f K x.2.1).bind fun y => if x.2.2 = 0 then (if x.2.1.toList = pk.toList then (if y.2.2.2.2.2.2.2.2.2 = true then (intrusionlaw17_unwraps.f K y.1 y.2.1 y.2.2.1 y.2.2.2.1 y.2.2.2.2.1 y.2.2.2.2.2.1 y.2.2.2.2.2.2.1 y.2.2.2.2.2.2.2.1 y.2.2.2.2.2.2.2.2.1 3 s).bind fun t => (if t = true then some true else none) else none) else none) else none) else some true) = some true := by
    intro pr kd hpr hin
    rw [show madeOf v' t1 t2 w' e1 e2 pr pk = (v', t1, t2, w', e1, e2, pr, 64, pk, 0) from if_neg (by omega)]
    dsimp only
    rw [if_pos rfl, innerIp_is _ _ _ _ _ _ _ _ _ (by omega) _ (by omega), hin]
    simp only [bs, if_true]
    rw [htk _ (by omega)]
    simp only [bs, if_true]
    unfold intrusionlaw17_unwraps.f
    rw [innerIp_is _ _ _ _ _ _ _ _ _ (by omega) _ (by omega), show inOf 47 d = some (greOf d) from rfl, hg]
    simp only [bs, if_true]
    rfl
  rw [if_pos hy]
  rcases p3 with p3 | p3
  · rw [show (if pk.size = 0 then badD 2 else if bt pk 0 / 16 = 4 then madeOf v' t1 t2 w' e1 e2 4 pk else if bt pk 0 / 16 = 6 then madeOf v' t1 t2 w' e1 e2 41 pk else badD 2) = madeOf v' t1 t2 w' e1 e2 4 pk from by rw [if_neg (by omega), if_pos p3]]
    exact fin 4 1 (.inl ⟨rfl, rfl⟩) (by show some (plOf 4 1 pk) = _; unfold plOf; rw [if_neg (by omega), if_pos p3])
  · rw [show (if pk.size = 0 then badD 2 else if bt pk 0 / 16 = 4 then madeOf v' t1 t2 w' e1 e2 4 pk else if bt pk 0 / 16 = 6 then madeOf v' t1 t2 w' e1 e2 41 pk else badD 2) = madeOf v' t1 t2 w' e1 e2 41 pk from by rw [if_neg (by omega), if_neg (by omega), if_pos p3]]
    exact fin 41 2 (.inr ⟨rfl, rfl⟩) (by show some (plOf 6 2 pk) = _; unfold plOf; rw [if_neg (by omega), if_pos p3])
end Go.Proofs.YtocobalkikkhlaaDoor.Pure
