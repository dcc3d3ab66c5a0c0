/- TunnelGre as a plain law: the datagram of WrapGre is the document's and Packet gives the document's packet of it, for any arguments of at most 70000 bytes, and the examples hold; no condition but that a machine holds the bytes. -/
import Derived.Test.YtocobalkikkhlaaDoorXDTunnelGre
import Derived.Test.YtocobalkikkhlaaDoorX0
import Derived.Laws.Bits128
import Derived.Laws.BitsAllLaws
import Derived.Lib.EndianBits
import Derived.Test.YtocobalkikkhlaaDoorX4
import Derived.Test.YtocobalkikkhlaaDoorX6
import Derived.Test.YtocobalkikkhlaaDoorX8
import Derived.Test.YtocobalkikkhlaaDoorX9
import Derived.Test.YtocobalkikkhlaaDoorX7
import Derived.Test.YtocobalkikkhlaaDoorX5
import Derived.Test.YtocobalkikkhlaaDoorX11
import Derived.Test.YtocobalkikkhlaaDoorX15
import Derived.Test.YtocobalkikkhlaaDoorX13
import Derived.Test.YtocobalkikkhlaaDoorX14
import Derived.Test.YtocobalkikkhlaaDoorX16
import Derived.Test.YtocobalkikkhlaaDoorX19
import Derived.Test.YtocobalkikkhlaaDoorX18
import Derived.Test.YtocobalkikkhlaaDoorX12
import Derived.Test.YtocobalkikkhlaaDoorX10
import Derived.Test.YtocobalkikkhlaaDoorX17
import Derived.Test.YtocobalkikkhlaaDoorX20
/-! ### Base -/
namespace Go.Proofs.YtocobalkikkhlaaDoor.Pure
open Go.RowKit Go.Proofs.YtocobalkikkhlaaDoor.X Go.Proofs.YtocobalkikkhlaaDoorW.PrintWords Go.Proofs.YtocobalkikkhlaaDoorW.PrintLast Go.Proofs.YtocobalkikkhlaaDoorW.PrintMore

/-- Told without 'rfl': a simp by it leaves the kernel little to compare. -/
theorem bs {α β : Type} (a : α) (f : α → Option β) : (some a).bind f = f a := by
  cases h : (some a) with
  | none => cases h
  | some b => injection h with h; subst h; rfl
theorem w64 {n : Int} (h : -9223372036854775808 ≤ n) (h' : n < 9223372036854775808) : wrap64 n = n := by unfold wrap64; omega
theorem and16 (n : Int) : Go.bits .and .i64 n 65535 = n % 65536 := by
  have h127 : (BitVec.ofInt 64 65535).toNat = 2 ^ 16 - 1 := by decide
  have key : (BitVec.ofInt 64 n &&& BitVec.ofInt 64 65535).toNat = (n % ((2 ^ 64 : Nat) : Int)).toNat % 2 ^ 16 := by
    rw [BitVec.toNat_and, BitVec.toNat_ofInt, h127, Nat.and_two_pow_sub_one_eq_mod]
  show IntKind.i64.wrap ((BitVec.ofInt 64 n &&& BitVec.ofInt 64 65535).toNat : Nat) = n % 65536
  rw [key, IntKind.wrap_i64]
  omega
theorem wraps_i64' (n : Int) (h₀ : 0 ≤ n) (h₁ : n < 2 ^ 63) : IntKind.i64.wrap n = n := by rw [IntKind.wrap_i64]; omega
/-- 'x*256 | b' on int. -/
theorem or8 (x b : Int) (h0 : 0 ≤ x) (h1 : x < 9223372036854775808) (hx : x % 256 = 0) (hb0 : 0 ≤ b) (hb : b < 256) : Go.bits .or .i64 x b = x + b :=
  bits_join .i64 63 (by decide) wraps_i64' 8 x b h0 (by omega) (by omega) hb0 (by omega) (by omega)
theorem bytesOf_data (s : ByteArray) : bytesOf s = s.data.toList.map fun b => (b.toNat : Int) := rfl
theorem bytesOf_append (a b : ByteArray) : bytesOf (a ++ b) = bytesOf a ++ bytesOf b := by
  simp [bytesOf, ByteArray.data_append]
theorem bytesOf_nil : bytesOf (⟨#[]⟩ : ByteArray) = [] := rfl
theorem bytesOf_extract (s : ByteArray) (i j : Nat) : bytesOf (s.extract i j) = ((bytesOf s).drop i).take (j - i) := by
  simp [bytesOf, ByteArray.data_extract, List.map_take, List.map_drop]
  try rw [List.extract_eq_take_drop]
theorem bytesOf_range (s : ByteArray) : ∀ x ∈ bytesOf s, 0 ≤ x ∧ x < 256 := by
  intro x hx
  obtain ⟨b, _, rfl⟩ := List.mem_map.mp hx
  have := b.toNat_lt
  omega
theorem bytesOf_inj {a b : ByteArray} (h : bytesOf a = bytesOf b) : a = b := by
  have h2 : a.data.toList = b.data.toList := by
    refine List.map_inj_right (f := fun (b : UInt8) => (b.toNat : Int)) ?_ |>.mp h
    intro x y hxy
    exact UInt8.toNat_inj.mp (by exact_mod_cast hxy)
  cases a; cases b
  simp at h2
  simp [h2]
theorem bytesOf_strOfNums (l : List Int) (h : ∀ x ∈ l, 0 ≤ x ∧ x < 256) : bytesOf (strOfNums l) = l := by
  induction l with
  | nil => rfl
  | cons x l ih =>
    have h1 := h x (by simp)
    have h2 := ih (fun y hy => h y (by simp [hy]))
    simp only [bytesOf, strOfNums_data, List.map_map, List.map_cons] at h2 ⊢
    refine List.cons_eq_cons.mpr ⟨?_, h2⟩
    simp only [UInt8.toNat_ofNat']
    omega
theorem bt_eq (s : ByteArray) (i : Nat) : bt s (i : Int) = (bytesOf s).getD i 0 := by
  unfold bt bytesOf
  rw [Int.toNat_natCast]
  by_cases h : i < s.size
  · have h' : i < s.data.toList.length := by rw [Array.length_toList]; exact h
    rw [dif_pos h]
    simp [List.getD_eq_getElem?_getD, List.getElem?_eq_getElem h']
    rfl
  · have h' : s.data.toList.length ≤ i := by rw [Array.length_toList]; exact Nat.not_lt.1 h
    rw [dif_neg h]
    simp [List.getD_eq_getElem?_getD, List.getElem?_eq_none h']
theorem bt_range (s : ByteArray) (i : Int) : 0 ≤ bt s i ∧ bt s i ≤ 255 := by
  unfold bt
  split
  · rename_i h
    have := (s[i.toNat]'h).toNat_lt
    omega
  · omega
theorem size_bytes (s : ByteArray) : s.size = (bytesOf s).length := (bytesOf_length s).symm
theorem size_append (a b : ByteArray) : (a ++ b).size = a.size + b.size := by simp
theorem toList_congr {a b : ByteArray} (h : bytesOf a = bytesOf b) : a.toList = b.toList := by rw [bytesOf_inj h]
theorem strOfNums_append (a b : List Int) : strOfNums (a ++ b) = strOfNums a ++ strOfNums b := by
  apply ByteArray.ext; simp [strOfNums, ByteArray.data_append]
theorem strOfNums_length (a : List Int) : (strOfNums a).size = a.length := strOfNums_size a
theorem wf_i64 {n : Int} (h : (Lit.int .i64 n).wf = true) : -9223372036854775808 ≤ n ∧ n < 9223372036854775808 := by
  simp only [Lit.wf, Bool.and_eq_true, decide_eq_true_eq] at h
  have e1 : IntKind.i64.min = -9223372036854775808 := by decide
  have e2 : IntKind.i64.max = 9223372036854775807 := by decide
  omega
theorem wf_u64 {n : Int} (h : (Lit.int .u64 n).wf = true) : 0 ≤ n ∧ n < 18446744073709551616 := by
  simp only [Lit.wf, Bool.and_eq_true, decide_eq_true_eq] at h
  have e1 : IntKind.u64.min = 0 := by decide
  have e2 : IntKind.u64.max = 18446744073709551615 := by decide
  omega
theorem wf_u32 {n : Int} (h : (Lit.int .u32 n).wf = true) : 0 ≤ n ∧ n < 4294967296 := by
  simp only [Lit.wf, Bool.and_eq_true, decide_eq_true_eq] at h
  have e1 : IntKind.u32.min = 0 := by decide
  have e2 : IntKind.u32.max = 4294967295 := by decide
  omega
theorem wf_u16 {n : Int} (h : (Lit.int .u16 n).wf = true) : 0 ≤ n ∧ n < 65536 := by
  simp only [Lit.wf, Bool.and_eq_true, decide_eq_true_eq] at h
  have e1 : IntKind.u16.min = 0 := by decide
  have e2 : IntKind.u16.max = 65535 := by decide
  omega
theorem wf_u8 {n : Int} (h : (Lit.int .u8 n).wf = true) : 0 ≤ n ∧ n < 256 := by
  simp only [Lit.wf, Bool.and_eq_true, decide_eq_true_eq] at h
  have e1 : IntKind.u8.min = 0 := by decide
  have e2 : IntKind.u8.max = 255 := by decide
  omega
end Go.Proofs.YtocobalkikkhlaaDoor.Pure

/-! ### SumA -/
namespace Go.Proofs.YtocobalkikkhlaaDoor.Pure
open Go.RowKit Go.Proofs.YtocobalkikkhlaaDoor.X Go.Proofs.YtocobalkikkhlaaDoorW.PrintWords Go.Proofs.YtocobalkikkhlaaDoorW.PrintLast Go.Proofs.YtocobalkikkhlaaDoorW.PrintMore

/-- The total of the 16-bit words of a list of bytes. -/
def tot : List Int → Int
  | [] => 0
  | [a] => a * 256
  | a :: b :: r => a * 256 + b + tot r
/-- The one's complement residue, 1 to 65535, or 0 for 0. -/
def canon (t : Int) : Int := if t = 0 then 0 else (t - 1) % 65535 + 1
theorem tot_nonneg : ∀ l : List Int, (∀ x ∈ l, 0 ≤ x ∧ x < 256) → 0 ≤ tot l
  | [], _ => by simp [tot]
  | [a], h => by have := h a (by simp); simp only [tot]; omega
  | a :: b :: r, h => by
    have h1 := h a (by simp)
    have h2 := h b (by simp)
    have h3 := tot_nonneg r (fun x hx => h x (by simp [hx]))
    simp only [tot]; omega
theorem tot_append : ∀ a b : List Int, a.length % 2 = 0 → tot (a ++ b) = tot a + tot b
  | [], b, _ => by simp [tot]
  | [x], b, h => by simp at h
  | x :: y :: r, b, h => by
    have := tot_append r b (by simp at h; omega)
    simp only [tot, List.cons_append, this]; omega
theorem canon_range {t : Int} (_h : 0 ≤ t) : 0 ≤ canon t ∧ canon t ≤ 65535 := by
  unfold canon; split <;> omega
theorem canon_step {t w : Int} (ht : 0 ≤ t) (h0 : 0 ≤ w) (h1 : w ≤ 65535) : (if canon t + w > 65535 then canon t + w - 65535 else canon t + w) = canon (t + w) := by
  unfold canon; split <;> split <;> split <;> omega
theorem fold_some (x : Int) (h0 : 0 ≤ x) (h1 : x ≤ 131070) : checksum_fold.f x = some (if x > 65535 then x - 65535 else x) := by
  unfold checksum_fold.f
  split
  · rw [w64 (by omega) (by omega)]
  · rfl
theorem drop_two (l : List Int) (i : Nat) (h : i + 1 < l.length) : l.drop i = l.getD i 0 :: l.getD (i + 1) 0 :: l.drop (i + 2) := by
  rw [List.drop_eq_getElem_cons (by omega), List.drop_eq_getElem_cons (by omega)]
  simp [List.getD_eq_getElem?_getD, List.getElem?_eq_getElem (show i < l.length by omega), List.getElem?_eq_getElem h]
theorem drop_one (l : List Int) (i : Nat) (h : i + 1 = l.length) : l.drop i = [l.getD i 0] := by
  rw [List.drop_eq_getElem_cons (by omega), List.drop_of_length_le (by omega)]
  simp [List.getD_eq_getElem?_getD, List.getElem?_eq_getElem (show i < l.length by omega)]
theorem sum_loop (s : ByteArray) (hs : s.size ≤ 4611686018427387904) : ∀ (k i : Nat) (t : Int), 0 ≤ t → s.size + 2 < 2 * k + i → i ≤ s.size + 1 →
    checksum_Sum.l0 k s (canon t) i = some (65535 - canon (t + tot ((bytesOf s).drop i)))
  | 0, i, t, _, h, h2 => by omega
  | k + 1, i, t, ht, h, h2 => by
    have hlen := bytesOf_length s
    have hr := canon_range ht
    unfold checksum_Sum.l0
    by_cases h1 : (i : Int) < (s.size : Int)
    · rw [if_pos h1, if_pos (by omega), w64 (n := (i : Int) + 1) (by omega) (by omega)]
      have hb := bt_range s i
      have hb2 := bt_range s ((i : Int) + 1)
      have hm : wrap64 (wrap64 (bt s i) * 256) = bt s i * 256 := by rw [w64 (n := bt s i) (by omega) (by omega), w64 (by omega) (by omega)]
      rw [hm, w64 (n := (i : Int) + 2) (by omega) (by omega), show ((i : Int) + 2) = ((i + 2 : Nat) : Int) by omega]
      by_cases h3 : (i : Int) + 1 < (s.size : Int)
      · rw [if_pos h3, if_pos (by omega), w64 (n := bt s ((i : Int) + 1)) (by omega) (by omega), or8 _ _ (by omega) (by omega) (by omega) (by omega) (by omega),
          w64 (by omega) (by omega), fold_some _ (by omega) (by omega), Option.bind_some, canon_step ht (by omega) (by omega),
          sum_loop s hs k (i + 2) _ (by omega) (by omega) (by omega), drop_two _ i (by omega), tot]
        rw [show ((i : Int) + 1) = ((i + 1 : Nat) : Int) by omega, bt_eq, bt_eq, Int.add_assoc]
      · rw [if_neg h3, w64 (by omega) (by omega), fold_some _ (by omega) (by omega), Option.bind_some, canon_step ht (by omega) (by omega),
          sum_loop s hs k (i + 2) _ (by omega) (by omega) (by omega), drop_one _ i (by omega), tot, List.drop_of_length_le (by omega), tot, bt_eq, Int.add_zero]
    · rw [if_neg h1, List.drop_of_length_le (by omega), tot, Int.add_zero, w64 (by omega) (by omega)]
/-- Sum in closed form. -/
def sumOf (s : ByteArray) : Int := 65535 - canon (tot (bytesOf s))
theorem sum_is (s : ByteArray) (hs : s.size ≤ 4611686018427387904) (k : Nat) (hk : s.size + 2 < k) : checksum_Sum.f k s = some (sumOf s) := by
  have := sum_loop s hs k 0 0 (by omega) (by omega) (by omega)
  unfold checksum_Sum.f sumOf
  simpa [canon] using this
theorem sumOf_range (s : ByteArray) : 0 ≤ sumOf s ∧ sumOf s ≤ 65535 := by
  have := canon_range (tot_nonneg _ (bytesOf_range s))
  unfold sumOf; omega
/-- Add in closed form. -/
def addOf (a b : Int) : Int := if a % 65536 + b % 65536 > 65535 then a % 65536 + b % 65536 - 65535 else a % 65536 + b % 65536
theorem addOf_range (a b : Int) : 0 ≤ addOf a b ∧ addOf a b ≤ 65535 := by unfold addOf; split <;> omega
end Go.Proofs.YtocobalkikkhlaaDoor.Pure

/-! ### Field -/
namespace Go.Proofs.YtocobalkikkhlaaDoor.Pure
open Go.RowKit Go.Proofs.YtocobalkikkhlaaDoor.X Go.Proofs.YtocobalkikkhlaaDoorW.PrintWords Go.Proofs.YtocobalkikkhlaaDoorW.PrintLast Go.Proofs.YtocobalkikkhlaaDoorW.PrintMore

/-- The last digits of a number to the base 256, the most significant first. -/
def beN : Nat → Int → List Int
  | 0, _ => []
  | i + 1, n => n / 256 ^ i % 256 :: beN i n
theorem beN_length : ∀ (i : Nat) (n : Int), (beN i n).length = i
  | 0, _ => rfl
  | i + 1, n => by simp [beN, beN_length i n]
theorem beN_range : ∀ (i : Nat) (n : Int), ∀ x ∈ beN i n, 0 ≤ x ∧ x < 256
  | 0, _, x, h => by simp [beN] at h
  | i + 1, n, x, h => by
    simp only [beN, List.mem_cons] at h
    rcases h with rfl | h
    · omega
    · exact beN_range i n x h
/-- The number of digits, the most significant first. -/
def valBE (l : List Int) : Int := l.foldl (fun n c => n * 256 + c) 0
theorem val_from : ∀ (l : List Int) (n : Int), l.foldl (fun n c => n * 256 + c) n = n * 256 ^ l.length + valBE l
  | [], n => by simp [valBE]
  | c :: l, n => by
    have h1 := val_from l (n * 256 + c)
    have h2 := val_from l (0 * 256 + c)
    unfold valBE
    simp only [List.foldl_cons, List.length_cons] at h1 h2 ⊢
    rw [h1, h2, Int.pow_succ]
    generalize (256 : Int) ^ l.length = p
    generalize valBE l = v
    rw [Int.add_mul, Int.zero_mul, Int.zero_add, Int.mul_comm p 256, ← Int.mul_assoc, Int.add_assoc]
theorem valBE_cons (c : Int) (l : List Int) : valBE (c :: l) = c * 256 ^ l.length + valBE l := by
  have h := val_from l (0 * 256 + c)
  unfold valBE
  simp only [List.foldl_cons]
  rw [h, Int.zero_mul, Int.zero_add]
  rfl
theorem valBE_range : ∀ l : List Int, (∀ x ∈ l, 0 ≤ x ∧ x < 256) → 0 ≤ valBE l ∧ valBE l < 256 ^ l.length
  | [], _ => by simp [valBE]
  | c :: l, h => by
    have h1 := valBE_range l (fun x hx => h x (by simp [hx]))
    have h2 := h c (by simp)
    have hp : (0 : Int) < 256 ^ l.length := Int.pow_pos (by decide)
    rw [valBE_cons, List.length_cons, Int.pow_succ]
    generalize (256 : Int) ^ l.length = p at *
    constructor
    · exact Int.add_nonneg (Int.mul_nonneg h2.1 (by omega)) h1.1
    · have : c * p ≤ 255 * p := Int.mul_le_mul_of_nonneg_right (by omega) (by omega)
      omega
theorem valBE_beN : ∀ (i : Nat) (n : Int), 0 ≤ n → valBE (beN i n) = n % 256 ^ i
  | 0, n, _ => by simp [beN, valBE]
  | i + 1, n, h => by
    rw [beN, valBE_cons, beN_length, valBE_beN i n h, Int.pow_succ]
    have hp : (0 : Int) < 256 ^ i := Int.pow_pos (by decide)
    have e1 := Int.emod_def n (256 ^ i * 256)
    have e2 := Int.emod_def n (256 ^ i)
    have e3 := Int.emod_def (n / 256 ^ i) 256
    rw [← Int.ediv_ediv_of_nonneg (by omega)] at e1
    rw [e1, e2, e3]
    generalize (256 : Int) ^ i = p
    generalize n / p / 256 = r
    generalize n / p = q
    grind
theorem beN_add (i : Nat) (n c : Int) : beN i (c * 256 ^ i + n) = beN i n := by
  suffices H : ∀ (i m : Nat) (c n : Int), i ≤ m → beN i (c * 256 ^ m + n) = beN i n from H i i c n (Nat.le_refl _)
  intro i
  induction i with
  | zero => intros; rfl
  | succ i ih =>
    intro m c n hm
    rw [beN, beN, ih m c n (by omega)]
    congr 1
    obtain ⟨d, rfl⟩ : ∃ d, m = i + (1 + d) := ⟨m - i - 1, by omega⟩
    have hp : (256 : Int) ^ i ≠ 0 := Int.ne_of_gt (Int.pow_pos (by decide))
    rw [Int.pow_add, ← Int.mul_assoc, Int.mul_right_comm, Int.mul_comm _ ((256 : Int) ^ i), Int.add_comm, Int.add_mul_ediv_left _ _ hp, Int.pow_add, Int.pow_one, ← Int.mul_assoc, Int.mul_right_comm]
    rw [Int.mul_comm _ 256]
    omega
theorem beN_valBE : ∀ l : List Int, (∀ x ∈ l, 0 ≤ x ∧ x < 256) → beN l.length (valBE l) = l
  | [], _ => rfl
  | c :: l, h => by
    have h1 := valBE_range l (fun x hx => h x (by simp [hx]))
    have h2 := h c (by simp)
    have hp : (0 : Int) < 256 ^ l.length := Int.pow_pos (by decide)
    rw [List.length_cons, beN, valBE_cons, beN_add, beN_valBE l (fun x hx => h x (by simp [hx]))]
    congr 1
    rw [Int.add_comm, Int.add_mul_ediv_right _ _ (by omega), Int.ediv_eq_zero_of_lt h1.1 h1.2]
    omega
theorem shr64 (n : Int) (i : Nat) (h : i ≤ 8) : shr .i64 n (8 * (i : Int)) = n / 256 ^ i := by
  unfold shr
  have e : IntKind.i64.bits = 64 := rfl
  rw [e, show (8 * (i : Int)).toNat = 8 * i by omega, Nat.min_eq_left (by omega), Int.pow_mul]
  rfl
theorem put_loop (n : Int) (size : Nat) (hs : size ≤ 7) : ∀ (m i k : Nat), i + m = size →
    field_Put.l0 (k + m + 1) n size (List.replicate m 0 ++ beN i n) size i = some (strOfNums (beN size n))
  | 0, i, k, h => by
    unfold field_Put.l0
    rw [if_neg (by omega)]
    simp only [List.replicate_zero, List.nil_append]
    rw [show i = size by omega]
  | m + 1, i, k, h => by
    rw [show k + (m + 1) + 1 = (k + m + 1) + 1 by omega]
    unfold field_Put.l0
    have hl : (List.replicate (m + 1) (0 : Int) ++ beN i n).length = size := by simp [beN_length]; omega
    rw [w64 (n := 8 * (i : Int)) (by omega) (by omega), w64 (n := (size : Int) - 1) (by omega) (by omega), w64 (n := (size : Int) - 1 - i) (by omega) (by omega), w64 (n := (i : Int) + 1) (by omega) (by omega), hl]
    rw [if_pos (by omega), if_pos (by omega), if_pos (by omega), if_pos (by omega), shr64 n i (by omega)]
    have e : (List.replicate (m + 1) (0 : Int) ++ beN i n).set ((size : Int) - 1 - i).toNat (n / 256 ^ i % 256) = List.replicate m 0 ++ beN (i + 1) n := by
      rw [show ((size : Int) - 1 - i).toNat = m by omega, List.replicate_succ', List.append_assoc, List.set_append_right _ _ (by simp)]
      simp [beN]
    rw [e, show (i : Int) + 1 = ((i + 1 : Nat) : Int) by omega]
    exact put_loop n size hs m (i + 1) k (by omega)
/-- Put in closed form. -/
def putOf (n size : Int) : ByteArray := if 1 ≤ size ∧ size ≤ 7 ∧ 0 ≤ n ∧ n < 256 ^ size.toNat then strOfNums (beN size.toNat n) else ⟨#[]⟩
theorem put_is (n size : Int) (k : Nat) (hk : 10 ≤ k) : field_Put.f k n size = some (putOf n size) := by
  obtain ⟨k, rfl⟩ : ∃ m, k = m + 1 := ⟨k - 1, by omega⟩
  unfold field_Put.f field_valid.f putOf
  by_cases h1 : 1 ≤ size
  · by_cases h7 : size ≤ 7
    · obtain ⟨z, rfl⟩ := Int.eq_ofNat_of_zero_le (show 0 ≤ size by omega)
      have hp : (0 : Int) < 256 ^ z := Int.pow_pos (by decide)
      simp only [ge_iff_le, h1, h7, if_true, decide_true, Option.bind_some, true_and, Int.toNat_natCast]
      rw [w64 (n := 8 * (z : Int)) (by omega) (by omega), shr64 n z (by omega)]
      by_cases h0 : n < 0
      · rw [if_pos h0, if_neg (show ¬ (0 ≤ n ∧ n < 256 ^ z) by omega)]
        unfold field_Put.j0
        simp
      · rw [if_neg h0, if_pos (show 0 ≤ 8 * (z : Int) by omega)]
        by_cases hb : n < 256 ^ z
        · rw [if_pos ⟨by omega, hb⟩, Int.ediv_eq_zero_of_lt (by omega) hb]
          unfold field_Put.j0
          have hl := put_loop n z (by omega) z 0 (k - z - 1) (by omega)
          rw [show k - z - 1 + z + 1 = k by omega] at hl
          simp only [bne_self_eq_false, Bool.false_eq_true, if_false]
          rw [if_pos (by omega), if_pos (by omega)]
          simpa [beN] using hl
        · have h3 : n / 256 ^ z ≠ 0 := by
            intro hz
            have := Int.lt_ediv_add_one_mul_self n hp
            rw [hz] at this
            omega
          rw [if_neg (fun h => hb h.2)]
          unfold field_Put.j0
          simp [h3]
    · have hn : ¬ (1 ≤ size ∧ size ≤ 7 ∧ 0 ≤ n ∧ n < 256 ^ size.toNat) := fun h => h7 h.2.1
      rw [if_pos (show size ≥ 1 from h1), if_neg hn]
      unfold field_Put.j0
      simp [h7]
  · have hn : ¬ (1 ≤ size ∧ size ≤ 7 ∧ 0 ≤ n ∧ n < 256 ^ size.toNat) := fun h => h1 h.1
    rw [if_neg (show ¬ size ≥ 1 from h1), if_neg hn]
    unfold field_Put.j0
    simp
theorem putOf_size (n size : Int) (h1 : 1 ≤ size) (h7 : size ≤ 7) (h0 : 0 ≤ n) (hb : n < 256 ^ size.toNat) : bytesOf (putOf n size) = beN size.toNat n := by
  unfold putOf
  rw [if_pos ⟨h1, h7, h0, hb⟩, bytesOf_strOfNums _ (beN_range _ _)]
theorem putOf_len (n size : Int) : (putOf n size).size ≤ 7 := by
  unfold putOf
  split
  · rw [strOfNums_size, beN_length]; omega
  · decide
theorem number_loop (l : List Int) (hl : ∀ x ∈ l, 0 ≤ x ∧ x < 256) (h7 : l.length ≤ 7) : ∀ (m i k : Nat), i + m = l.length →
    field_number.l0 (k + m + 1) (valBE (l.take i)) l l.length i = some (valBE l)
  | 0, i, k, h => by
    unfold field_number.l0
    rw [if_neg (by omega), List.take_of_length_le (by omega)]
  | m + 1, i, k, h => by
    rw [show k + (m + 1) + 1 = (k + m + 1) + 1 by omega]
    have hlt : i < l.length := by omega
    have ht : l.take (i + 1) = l.take i ++ [l[i]] := by rw [List.take_add_one]; simp [hlt]
    have e : valBE (l.take (i + 1)) = valBE (l.take i) * 256 + l[i] := by
      rw [ht]; unfold valBE; rw [List.foldl_append]; rfl
    have hr := valBE_range (l.take i) (fun x hx => hl x (List.mem_of_mem_take hx))
    have hc := hl l[i] (List.getElem_mem hlt)
    have hpow : (256 : Int) ^ (l.take i).length ≤ 281474976710656 := by
      have h6 : (l.take i).length ≤ 6 := by simp; omega
      have hn : 256 ^ (l.take i).length ≤ 281474976710656 := Nat.le_trans (Nat.pow_le_pow_right (by decide) h6) (by decide)
      have hc : ((256 ^ (l.take i).length : Nat) : Int) = (256 : Int) ^ (l.take i).length := Int.natCast_pow 256 _
      omega
    have hrd : rd l i = l[i] := by unfold rd; rw [Int.toNat_natCast, List.getD_eq_getElem?_getD, List.getElem?_eq_getElem hlt]; rfl
    unfold field_number.l0
    rw [if_pos (by omega), if_pos (by omega), if_pos (by omega), hrd, w64 (n := l[i]) (by omega) (by omega), w64 (n := valBE (l.take i) * 256) (by omega) (by omega), or8 _ _ (by omega) (by omega) (by omega) (by omega) (by omega), w64 (n := (i : Int) + 1) (by omega) (by omega), ← e,
      show (i : Int) + 1 = ((i + 1 : Nat) : Int) by omega]
    exact number_loop l hl h7 m (i + 1) k (by omega)
theorem number_is (l : List Int) (hl : ∀ x ∈ l, 0 ≤ x ∧ x < 256) (h7 : l.length ≤ 7) (k : Nat) (hk : 8 ≤ k) : field_number.f k l = some (valBE l) := by
  have h := number_loop l hl h7 l.length 0 (k - l.length - 1) (by omega)
  rw [show k - l.length - 1 + l.length + 1 = k by omega] at h
  unfold field_number.f
  simpa [valBE] using h
end Go.Proofs.YtocobalkikkhlaaDoor.Pure

/-! ### RSum02 -/
namespace Go.Proofs.YtocobalkikkhlaaDoor.Pure
open Go.RowKit Go.Proofs.YtocobalkikkhlaaDoor.X Go.Proofs.YtocobalkikkhlaaDoorW.PrintWords Go.Proofs.YtocobalkikkhlaaDoorW.PrintLast Go.Proofs.YtocobalkikkhlaaDoorW.PrintMore

theorem radd_is (a b : Int) : intrusionref02_Add.f a b = some (addOf a b) := by
  unfold intrusionref02_Add.f addOf
  rw [and16, and16, w64 (n := a % 65536 + b % 65536) (by omega) (by omega)]
  split
  · rw [w64 (by omega) (by omega)]
  · rfl
theorem radd_step {t w : Int} (ht : 0 ≤ t) (h0 : 0 ≤ w) (h1 : w ≤ 65535) : intrusionref02_Add.f (canon t) w = some (canon (t + w)) := by
  have hr := canon_range ht
  rw [radd_is, ← canon_step ht h0 h1, addOf, show canon t % 65536 = canon t by omega, show w % 65536 = w by omega]
theorem rsum_loop (s : ByteArray) (hs : s.size ≤ 4611686018427387904) : ∀ (k i : Nat) (t : Int), 0 ≤ t → s.size + 2 < 2 * k + i → i ≤ s.size + 1 →
    intrusionref02_Sum.l0 k s (canon t) i = some (65535 - canon (t + tot ((bytesOf s).drop i)))
  | 0, i, t, _, h, h2 => by omega
  | k + 1, i, t, ht, h, h2 => by
    have hlen := bytesOf_length s
    have hr := canon_range ht
    unfold intrusionref02_Sum.l0
    by_cases h1 : (i : Int) < (s.size : Int)
    · rw [if_pos h1, if_pos (by omega), w64 (n := (i : Int) + 1) (by omega) (by omega)]
      have hb := bt_range s i
      have hb2 := bt_range s ((i : Int) + 1)
      have hm : wrap64 (wrap64 (bt s i) * 256) = bt s i * 256 := by rw [w64 (n := bt s i) (by omega) (by omega), w64 (by omega) (by omega)]
      rw [hm, w64 (n := (i : Int) + 2) (by omega) (by omega), show ((i : Int) + 2) = ((i + 2 : Nat) : Int) by omega]
      by_cases h3 : (i : Int) + 1 < (s.size : Int)
      · rw [if_pos h3, if_pos (by omega), w64 (n := bt s ((i : Int) + 1)) (by omega) (by omega),
          w64 (by omega) (by omega), radd_step ht (by omega) (by omega), Option.bind_some,
          rsum_loop s hs k (i + 2) _ (by omega) (by omega) (by omega), drop_two _ i (by omega), tot]
        rw [show ((i : Int) + 1) = ((i + 1 : Nat) : Int) by omega, bt_eq, bt_eq, Int.add_assoc]
      · rw [if_neg h3, radd_step ht (by omega) (by omega), Option.bind_some,
          rsum_loop s hs k (i + 2) _ (by omega) (by omega) (by omega), drop_one _ i (by omega), tot, List.drop_of_length_le (by omega), tot, bt_eq, Int.add_zero]
    · rw [if_neg h1, List.drop_of_length_le (by omega), tot, Int.add_zero, w64 (by omega) (by omega)]
theorem rsum_is (s : ByteArray) (hs : s.size ≤ 4611686018427387904) (k : Nat) (hk : s.size + 2 < k) : intrusionref02_Sum.f k s = some (sumOf s) := by
  have := rsum_loop s hs k 0 0 (by omega) (by omega) (by omega)
  unfold intrusionref02_Sum.f sumOf
  simpa [canon] using this
end Go.Proofs.YtocobalkikkhlaaDoor.Pure

/-! ### RefPut -/
namespace Go.Proofs.YtocobalkikkhlaaDoor.Pure
open Go.RowKit Go.Proofs.YtocobalkikkhlaaDoor.X Go.Proofs.YtocobalkikkhlaaDoorW.PrintWords Go.Proofs.YtocobalkikkhlaaDoorW.PrintLast Go.Proofs.YtocobalkikkhlaaDoorW.PrintMore

theorem power_is (z : Nat) (h : z ≤ 7) (k : Nat) (hk : 10 ≤ k) : intrusionref01_Power.f k z = some (256 ^ z) := by
  refine at_rounds (intrusionref01_Power.mono _) hk ?_
  obtain rfl | rfl | rfl | rfl | rfl | rfl | rfl | rfl : z = 0 ∨ z = 1 ∨ z = 2 ∨ z = 3 ∨ z = 4 ∨ z = 5 ∨ z = 6 ∨ z = 7 := by omega
  all_goals decide +kernel
theorem beN_snoc : ∀ (i : Nat) (n : Int), beN (i + 1) n = beN i (n / 256) ++ [n % 256]
  | 0, n => by simp [beN]
  | i + 1, n => by
    rw [beN, beN_snoc i n, beN, Int.pow_succ, Int.mul_comm, ← Int.ediv_ediv_of_nonneg (by omega)]
    rfl
theorem rput_is : ∀ (z : Nat) (n : Int) (k : Nat), -9223372036854775808 ≤ n → n < 9223372036854775808 → 1 ≤ z → z ≤ 7 → 2 * z + 20 ≤ k → intrusionref01_Put.f k n z = some (putOf n z)
  | 0, n, k, _, _, h, _, _ => by omega
  | z + 1, n, k, hn, hn', h1, h7, hk => by
    obtain ⟨k, rfl⟩ : ∃ m, k = m + 2 := ⟨k - 2, by omega⟩
    have hp : (0 : Int) < 256 ^ (z + 1) := Int.pow_pos (by decide)
    unfold intrusionref01_Put.f
    rw [if_neg (by omega), if_neg (by omega), power_is (z + 1) h7 _ (by omega)]
    unfold putOf
    simp only [Option.bind_some, Int.toNat_natCast]
    by_cases h0 : n < 0
    · rw [if_pos h0, if_neg (by omega)]
      unfold intrusionref01_Put.j0
      simp
    · rw [if_neg h0]
      by_cases hb : n < 256 ^ (z + 1)
      · rw [if_pos ⟨by omega, by omega, by omega, hb⟩, decide_eq_false (by omega)]
        unfold intrusionref01_Put.j0
        simp only [Bool.false_eq_true, if_false]
        by_cases hz : z = 0
        · subst hz
          simp [beN]
        · rw [if_neg (by omega), w64 (n := ((z + 1 : Nat) : Int) - 1) (by omega) (by omega), Int.tdiv_eq_ediv_of_nonneg (by omega), w64 (n := n / 256) (by omega) (by omega), Int.tmod_eq_emod_of_nonneg (by omega),
            show ((z + 1 : Nat) : Int) - 1 = (z : Int) by omega, rput_is z (n / 256) k (by omega) (by omega) (by omega) (by omega) (by omega)]
          have hb2 : n / 256 < 256 ^ z := by
            rw [Int.pow_succ] at hb
            exact Int.ediv_lt_of_lt_mul (by omega) hb
          have hs : (putOf (n / 256) z).size ≤ 7 := putOf_len _ _
          simp only [Option.bind_some]
          rw [if_pos (by rw [strOfNums_size]; simp; omega), show n % 256 % 256 = n % 256 by omega, beN_snoc, strOfNums_append]
          unfold putOf
          rw [if_pos ⟨by omega, by omega, by omega, by simpa using hb2⟩]
          simp
      · rw [if_neg (fun h => hb h.2.2.2), decide_eq_true (by omega)]
        unfold intrusionref01_Put.j0
        simp
theorem rput_all (n size : Int) (k : Nat) (hn : -9223372036854775808 ≤ n) (hn' : n < 9223372036854775808) (hk : 40 ≤ k) : intrusionref01_Put.f k n size = some (putOf n size) := by
  by_cases h1 : 1 ≤ size
  · by_cases h7 : size ≤ 7
    · obtain ⟨z, rfl⟩ := Int.eq_ofNat_of_zero_le (show 0 ≤ size by omega)
      exact rput_is z n k hn hn' (by omega) (by omega) (by omega)
    · obtain ⟨k, rfl⟩ : ∃ m, k = m + 2 := ⟨k - 2, by omega⟩
      unfold intrusionref01_Put.f intrusionref01_Put.j0 putOf
      have hx : ¬ (1 ≤ size ∧ size ≤ 7 ∧ 0 ≤ n ∧ n < 256 ^ size.toNat) := fun h => h7 h.2.1
      rw [if_neg (by omega), if_pos (by omega), if_neg hx]
      rfl
  · obtain ⟨k, rfl⟩ : ∃ m, k = m + 2 := ⟨k - 2, by omega⟩
    unfold intrusionref01_Put.f intrusionref01_Put.j0 putOf
    have hx : ¬ (1 ≤ size ∧ size ≤ 7 ∧ 0 ≤ n ∧ n < 256 ^ size.toNat) := fun h => h1 h.1
    rw [if_pos (by omega), if_neg hx]
    rfl
end Go.Proofs.YtocobalkikkhlaaDoor.Pure

/-! ### TunH -/
set_option linter.unusedVariables false
set_option linter.unusedSimpArgs false
namespace Go.Proofs.YtocobalkikkhlaaDoor.Pure
open Go.RowKit Go.Proofs.YtocobalkikkhlaaDoor.X Go.Proofs.YtocobalkikkhlaaDoorW.PrintWords Go.Proofs.YtocobalkikkhlaaDoorW.PrintLast Go.Proofs.YtocobalkikkhlaaDoorW.PrintMore

theorem awake200 : intrusionlaw17_awake.f 200 = some true := by decide +kernel
theorem awake17_is (k : Nat) (hk : 200 ≤ k) : intrusionlaw17_awake.f k = some true := at_rounds intrusionlaw17_awake.mono hk awake200
/-- Whether an address is one. -/
def okAddr (v6 : Bool) (hi lo : Int) : Prop := v6 = true ∨ (hi = 0 ∧ lo < 4294967296)
instance (v6 : Bool) (hi lo : Int) : Decidable (okAddr v6 hi lo) := by unfold okAddr; infer_instance
/-- Two addresses that fit. -/
def okFit (v6 : Bool) (hi lo : Int) (w6 : Bool) (hj lp : Int) : Prop := okAddr v6 hi lo ∧ okAddr w6 hj lp ∧ v6 = w6
instance (v6 : Bool) (hi lo : Int) (w6 : Bool) (hj lp : Int) : Decidable (okFit v6 hi lo w6 hj lp) := by unfold okFit; infer_instance
theorem avalid_is (v6 : Bool) (hi lo : Int) : address_Valid.f v6 hi lo = some (decide (okAddr v6 hi lo)) := by
  unfold address_Valid.f okAddr
  by_cases h : v6 = true
  · simp [h]
  · by_cases h2 : hi = 0
    · rw [if_neg h, if_pos h2]
      congr 1
      apply decide_eq_decide.mpr
      constructor
      · intro h3; exact .inr ⟨h2, by omega⟩
      · rintro (h3 | h3)
        · exact absurd h3 h
        · omega
    · simp [h, h2]
theorem put2 (n : Int) (h0 : 0 ≤ n) (h1 : n < 65536) : putOf n 2 = strOfNums (beN 2 n) := by
  unfold putOf
  rw [if_pos ⟨by decide, by decide, h0, by simpa using h1⟩]
  rfl
abbrev DR := Bool × Int × Int × Bool × Int × Int × Int × Int × ByteArray × Int
def badD (e : Int) : DR := (false, 0, 0, false, 0, 0, 0, 0, (⟨#[]⟩ : ByteArray), e)
section
variable (v6 : Bool) (hi lo : Int) (w6 : Bool) (hj lp : Int)
def madeOf (pr : Int) (d : ByteArray) : DR := if (d.size : Int) > 65000 then badD 3 else (v6, hi, lo, w6, hj, lp, pr, 64, d, 0)
theorem related_is : tunnel_related.f v6 hi lo w6 hj lp = some (decide (okFit v6 hi lo w6 hj lp)) := by
  unfold tunnel_related.f
  rw [avalid_is, avalid_is]
  simp only [bs, decide_eq_true_eq]
  by_cases a : okAddr v6 hi lo
  · rw [if_pos a]
    by_cases b : okAddr w6 hj lp
    · rw [if_pos b]
      congr 1
      rw [Bool.eq_iff_iff, beq_iff_eq, decide_eq_true_iff]
      exact ⟨fun z => (⟨a, b, z⟩ : okFit v6 hi lo w6 hj lp), fun z => z.2.2⟩
    · rw [if_neg b, decide_eq_false (fun z : okFit v6 hi lo w6 hj lp => b z.2.1)]
  · rw [if_neg a, decide_eq_false (fun z : okFit v6 hi lo w6 hj lp => a z.1)]
theorem wrapped_is (pr : Int) (d : ByteArray) : tunnel_wrapped.f v6 hi lo w6 hj lp pr d = some (madeOf v6 hi lo w6 hj lp pr d) := by
  unfold tunnel_wrapped.f madeOf
  split <;> rfl
theorem dr_eta (t : DR) : some (t.1, t.2.1, t.2.2.1, t.2.2.2.1, t.2.2.2.2.1, t.2.2.2.2.2.1, t.2.2.2.2.2.2.1, t.2.2.2.2.2.2.2.1, t.2.2.2.2.2.2.2.2.1, t.2.2.2.2.2.2.2.2.2) = some t := rfl
end
theorem put4 (n : Int) (h0 : 0 ≤ n) (h1 : n < 4294967296) : putOf n 4 = strOfNums (beN 4 n) := by
  unfold putOf
  rw [if_pos ⟨by decide, by decide, h0, by simpa using h1⟩]
  rfl
theorem z2s : (⟨#[0, 0]⟩ : ByteArray) = strOfNums [0, 0] := by decide +kernel
theorem z4s : (⟨#[0, 0, 0, 0]⟩ : ByteArray) = strOfNums [0, 0, 0, 0] := by decide +kernel
def typOf (kind : Int) : Int := if kind = 1 then 2048 else if kind = 2 then 34525 else 25944
theorem typ_rd (kind : Int) (h1 : 1 ≤ kind) (h3 : kind ≤ 3) : rd ([0, 2048, 34525, 25944] : List Int) kind = typOf kind := by
  have : kind = 1 ∨ kind = 2 ∨ kind = 3 := by omega
  rcases this with rfl | rfl | rfl <;> rfl
theorem typ_range (kind : Int) : 0 ≤ typOf kind ∧ typOf kind < 65536 := by unfold typOf; split; omega; split <;> omega
/-- The bytes behind the flags and the type, with the checksum c (none: the empty list). -/
def greL (fl : Int) (kind : Int) (c : List Int) (key : Int) (s : ByteArray) : List Int := beN 2 fl ++ beN 2 (typOf kind) ++ c ++ beN 4 key ++ bytesOf s
def ckOf (kind key : Int) (s : ByteArray) : Int := sumOf (strOfNums (greL 40960 kind [0, 0, 0, 0] key s))
def greP (kind : Int) (s : ByteArray) (key : Int) (sum : Bool) : ByteArray :=
  strOfNums (if sum = true then greL 40960 kind (beN 2 (ckOf kind key s) ++ [0, 0]) key s else greL 8192 kind [] key s)
theorem ck_range (kind key : Int) (s : ByteArray) : 0 ≤ ckOf kind key s ∧ ckOf kind key s ≤ 65535 := sumOf_range _
theorem str_back (s : ByteArray) : strOfNums (bytesOf s) = s := bytesOf_inj (bytesOf_strOfNums _ (bytesOf_range s))
section
variable (v6 : Bool) (hi lo : Int) (w6 : Bool) (hj lp : Int)
def wgOf (kind : Int) (s : ByteArray) (key : Int) (sum : Bool) : DR :=
  if okFit v6 hi lo w6 hj lp then (if kind < 1 ∨ 3 < kind then badD 4 else madeOf v6 hi lo w6 hj lp 47 (greP kind s key sum)) else badD 13
theorem wrapGre_is (kind : Int) (s : ByteArray) (hs : s.size ≤ 1152921504606846976) (key : Int) (hk0 : 0 ≤ key) (hk1 : key < 4294967296) (sum : Bool) (k : Nat) (hk : s.size + 100 ≤ k) :
    tunnel_WrapGre.f k v6 hi lo w6 hj lp kind s key sum = some (wgOf v6 hi lo w6 hj lp kind s key sum) := by
  obtain ⟨q, rfl⟩ : ∃ q, k = q + 1 := ⟨k - 1, by omega⟩
  unfold tunnel_WrapGre.f wgOf
  rw [related_is]
  simp only [bs, decide_eq_true_eq]
  by_cases f : okFit v6 hi lo w6 hj lp
  · rw [if_pos f, if_pos f]
    by_cases a : kind < 1
    · rw [if_pos a, if_pos (.inl a), tunnel_WrapGre.j0, if_pos rfl]
      rfl
    · rw [if_neg a]
      by_cases b : kind > 3
      · rw [decide_eq_true b, if_pos (show kind < 1 ∨ 3 < kind from .inr b), tunnel_WrapGre.j0, if_pos rfl]
        rfl
      · have tr := typ_range kind
        have cr := ck_range kind key s
        have L2 : ∀ x : Int, (strOfNums (beN 2 x)).size = 2 := fun x => by rw [strOfNums_size, beN_length]
        have L4 : ∀ x : Int, (strOfNums (beN 4 x)).size = 4 := fun x => by rw [strOfNums_size, beN_length]
        have zs : ∀ l : List Int, (strOfNums l).size = l.length := strOfNums_size
        rw [decide_eq_false b, if_neg (show ¬ (kind < 1 ∨ 3 < kind) by omega), tunnel_WrapGre.j0, if_neg (by decide), if_pos (by omega), if_pos (by omega), w64 (n := key) (by omega) (by omega), put_is key 4 q (by omega), put4 key hk0 hk1, typ_rd kind (by omega) (by omega)]
        simp only [bs]
        rw [if_pos (by rw [L4]; omega)]
        unfold greP
        cases sum with
        | true =>
          rw [if_pos rfl, if_pos rfl, put_is 40960 2 q (by omega), put2 40960 (by omega) (by omega)]
          simp only [bs]
          rw [put_is (typOf kind) 2 q (by omega), put2 _ tr.1 tr.2]
          simp only [bs]
          have eX : strOfNums (beN 2 40960) ++ strOfNums (beN 2 (typOf kind)) ++ (⟨#[0, 0, 0, 0]⟩ : ByteArray) ++ (strOfNums (beN 4 key) ++ s) = strOfNums (greL 40960 kind [0, 0, 0, 0] key s) := by
            unfold greL
            rw [z4s, strOfNums_append, strOfNums_append, strOfNums_append, strOfNums_append, str_back]
            apply bytesOf_inj
            simp only [bytesOf_append, List.append_assoc]
          have zX : (strOfNums (greL 40960 kind [0, 0, 0, 0] key s)).size = 12 + s.size := by
            rw [zs]; unfold greL; have := bytesOf_length s; simp [beN_length]; omega
          rw [if_pos (by rw [L2, L2]; omega), if_pos (by rw [size_append, L2, L2]; omega), if_pos (by rw [size_append, size_append, size_append, L2, L2, L4, z4s, zs]; simp; omega), eX, sum_is _ (by omega) q (by omega)]
          simp only [bs]
          rw [show sumOf (strOfNums (greL 40960 kind [0, 0, 0, 0] key s)) = ckOf kind key s from rfl, put_is (ckOf kind key s) 2 q (by omega), put2 _ cr.1 (by omega)]
          simp only [bs]
          have eY : strOfNums (beN 2 40960) ++ strOfNums (beN 2 (typOf kind)) ++ strOfNums (beN 2 (ckOf kind key s)) ++ (⟨#[0, 0]⟩ : ByteArray) ++ (strOfNums (beN 4 key) ++ s) = strOfNums (greL 40960 kind (beN 2 (ckOf kind key s) ++ [0, 0]) key s) := by
            unfold greL
            rw [z2s, strOfNums_append, strOfNums_append, strOfNums_append, strOfNums_append, strOfNums_append, str_back]
            apply bytesOf_inj
            simp only [bytesOf_append, List.append_assoc]
          rw [if_pos (by rw [size_append, L2, L2, L2]; omega), if_pos (by rw [size_append, size_append, L2, L2, L2]; omega), if_pos (by rw [size_append, size_append, size_append, size_append, L2, L2, L2, L4, z2s, zs]; simp; omega), eY, wrapped_is]
          simp only [bs]
        | false =>
          rw [if_neg (by decide), if_neg (by decide), put_is 8192 2 q (by omega), put2 8192 (by omega) (by omega)]
          simp only [bs]
          rw [put_is (typOf kind) 2 q (by omega), put2 _ tr.1 tr.2]
          simp only [bs]
          have eY : strOfNums (beN 2 8192) ++ strOfNums (beN 2 (typOf kind)) ++ (strOfNums (beN 4 key) ++ s) = strOfNums (greL 8192 kind [] key s) := by
            unfold greL
            rw [List.append_nil, strOfNums_append, strOfNums_append, strOfNums_append, str_back]
            apply bytesOf_inj
            simp only [bytesOf_append, List.append_assoc]
          rw [if_pos (by rw [L2, L2]; omega), if_pos (by rw [size_append, size_append, L2, L2, L4]; omega), eY, wrapped_is]
          simp only [bs]
  · rw [if_neg f, if_neg f]
    rfl
end
section
variable (v6 : Bool) (hi lo : Int) (w6 : Bool) (hj lp : Int)
theorem rvalid06_is : intrusionref06_Valid.f v6 hi lo = some (decide (okAddr v6 hi lo)) := by
  unfold intrusionref06_Valid.f
  cases v6 with
  | true => rw [if_pos rfl, decide_eq_true (show okAddr true hi lo from .inl rfl)]
  | false =>
    rw [if_neg (by decide)]
    by_cases a : hi = 0
    · rw [if_pos a]
      congr 1
      apply decide_eq_decide.mpr
      exact ⟨fun z => (show okAddr false hi lo from .inr ⟨a, z⟩), fun z => z.elim (fun y => by cases y) (fun y => y.2)⟩
    · rw [if_neg a, decide_eq_false (fun z : okAddr false hi lo => z.elim (fun y => by cases y) (fun y => a y.1))]
theorem family_is : intrusionref17_family.f v6 hi lo w6 hj lp = some (decide (okFit v6 hi lo w6 hj lp)) := by
  unfold intrusionref17_family.f
  rw [rvalid06_is, rvalid06_is]
  simp only [bs, decide_eq_true_eq]
  by_cases a : okAddr v6 hi lo
  · rw [if_pos a]
    by_cases b : okAddr w6 hj lp
    · rw [if_pos b]
      congr 1
      rw [Bool.eq_iff_iff, beq_iff_eq, decide_eq_true_iff]
      exact ⟨fun z => (⟨a, b, z⟩ : okFit v6 hi lo w6 hj lp), fun z => z.2.2⟩
    · rw [if_neg b, decide_eq_false (fun z : okFit v6 hi lo w6 hj lp => b z.2.1)]
  · rw [if_neg a, decide_eq_false (fun z : okFit v6 hi lo w6 hj lp => a z.1)]
theorem made_is (pr : Int) (d : ByteArray) : intrusionref17_made.f v6 hi lo w6 hj lp pr d = some (madeOf v6 hi lo w6 hj lp pr d) := by
  unfold intrusionref17_made.f madeOf
  split <;> rfl
theorem rtype_is (n : Int) : intrusionref17_typeOf.f n = some (typOf n) := by
  unfold intrusionref17_typeOf.f typOf
  split
  · rfl
  · split <;> rfl
theorem rwrapGre_is (kind : Int) (s : ByteArray) (hs : s.size ≤ 1152921504606846976) (key : Int) (hk0 : 0 ≤ key) (hk1 : key < 4294967296) (sum : Bool) (k : Nat) (hk : s.size + 100 ≤ k) :
    intrusionref17_WrapGre.f k v6 hi lo w6 hj lp kind s key sum = some (wgOf v6 hi lo w6 hj lp kind s key sum) := by
  obtain ⟨q, rfl⟩ : ∃ q, k = q + 1 := ⟨k - 1, by omega⟩
  unfold intrusionref17_WrapGre.f wgOf
  rw [family_is]
  simp only [bs, decide_eq_true_eq]
  by_cases f : okFit v6 hi lo w6 hj lp
  · rw [if_pos f, if_pos f]
    by_cases a : kind < 1
    · rw [if_pos a, if_pos (.inl a), intrusionref17_WrapGre.j0, if_pos rfl]
      rfl
    · rw [if_neg a]
      by_cases b : kind > 3
      · rw [decide_eq_true b, if_pos (show kind < 1 ∨ 3 < kind from .inr b), intrusionref17_WrapGre.j0, if_pos rfl]
        rfl
      · have tr := typ_range kind
        have cr := ck_range kind key s
        have L2 : ∀ x : Int, (strOfNums (beN 2 x)).size = 2 := fun x => by rw [strOfNums_size, beN_length]
        have L4 : ∀ x : Int, (strOfNums (beN 4 x)).size = 4 := fun x => by rw [strOfNums_size, beN_length]
        have zs : ∀ l : List Int, (strOfNums l).size = l.length := strOfNums_size
        have zX : ∀ fl c, (strOfNums (greL fl kind c key s)).size = 8 + c.length + s.size := fun fl c => by
          rw [zs]; unfold greL; have := bytesOf_length s; simp [beN_length]; omega
        have zG : (greP kind s key sum).size = (if sum = true then 12 else 8) + s.size := by
          unfold greP
          cases sum with
          | true => rw [if_pos rfl, if_pos rfl, zX]; simp [beN_length]
          | false => rw [if_neg (by decide), if_neg (by decide), zX]; simp
        have e160 : (⟨#[160, 0]⟩ : ByteArray) = strOfNums (beN 2 40960) := by decide +kernel
        have e32 : (⟨#[32, 0]⟩ : ByteArray) = strOfNums (beN 2 8192) := by decide +kernel
        rw [decide_eq_false b, if_neg (show ¬ (kind < 1 ∨ 3 < kind) by omega), intrusionref17_WrapGre.j0, if_neg (by decide)]
        by_cases hl : (s.size : Int) > 65000
        · rw [if_pos hl]
          unfold madeOf
          rw [if_pos (by rw [zG]; split <;> omega)]
          rfl
        rw [if_neg hl, w64 (n := key) (by omega) (by omega), rput_all key 4 q (by omega) (by omega) (by omega), put4 key hk0 hk1]
        simp only [bs]
        rw [if_pos (by rw [L4]; omega)]
        unfold greP
        cases sum with
        | true =>
          rw [if_pos rfl, if_pos rfl, rtype_is]
          simp only [bs]
          rw [rput_all (typOf kind) 2 q (by omega) (by omega) (by omega), put2 _ tr.1 tr.2]
          simp only [bs]
          have eX : strOfNums (beN 2 40960) ++ strOfNums (beN 2 (typOf kind)) ++ (⟨#[0, 0, 0, 0]⟩ : ByteArray) ++ (strOfNums (beN 4 key) ++ s) = strOfNums (greL 40960 kind [0, 0, 0, 0] key s) := by
            unfold greL
            rw [z4s, strOfNums_append, strOfNums_append, strOfNums_append, strOfNums_append, str_back]
            apply bytesOf_inj
            simp only [bytesOf_append, List.append_assoc]
          rw [e160, if_pos (by rw [L2]; omega), if_pos (by rw [size_append, L2, L2]; omega), if_pos (by rw [size_append, size_append, size_append, L2, L2, L4, z4s, zs]; simp; omega), eX, rsum_is _ (by rw [zX]; simp; omega) q (by rw [zX]; simp; omega)]
          simp only [bs]
          rw [show sumOf (strOfNums (greL 40960 kind [0, 0, 0, 0] key s)) = ckOf kind key s from rfl, rput_all (ckOf kind key s) 2 q (by omega) (by omega) (by omega), put2 _ cr.1 (by omega)]
          simp only [bs]
          have eY : strOfNums (beN 2 40960) ++ strOfNums (beN 2 (typOf kind)) ++ strOfNums (beN 2 (ckOf kind key s)) ++ (⟨#[0, 0]⟩ : ByteArray) ++ (strOfNums (beN 4 key) ++ s) = strOfNums (greL 40960 kind (beN 2 (ckOf kind key s) ++ [0, 0]) key s) := by
            unfold greL
            rw [z2s, strOfNums_append, strOfNums_append, strOfNums_append, strOfNums_append, strOfNums_append, str_back]
            apply bytesOf_inj
            simp only [bytesOf_append, List.append_assoc]
          rw [if_pos (by rw [size_append, L2, L2, L2]; omega), if_pos (by rw [size_append, size_append, L2, L2, L2]; omega), if_pos (by rw [size_append, size_append, size_append, size_append, L2, L2, L2, L4, z2s, zs]; simp; omega), eY, made_is]
          simp only [bs]
        | false =>
          rw [if_neg (by decide), if_neg (by decide), rtype_is]
          simp only [bs]
          rw [rput_all (typOf kind) 2 q (by omega) (by omega) (by omega), put2 _ tr.1 tr.2]
          simp only [bs]
          have eY : strOfNums (beN 2 8192) ++ strOfNums (beN 2 (typOf kind)) ++ (strOfNums (beN 4 key) ++ s) = strOfNums (greL 8192 kind [] key s) := by
            unfold greL
            rw [List.append_nil, strOfNums_append, strOfNums_append, strOfNums_append, str_back]
            apply bytesOf_inj
            simp only [bytesOf_append, List.append_assoc]
          rw [e32, if_pos (by rw [L2]; omega), if_pos (by rw [size_append, size_append, L2, L2, L4]; omega), eY, made_is]
          simp only [bs]
  · rw [if_neg f, if_neg f]
    rfl
end
end Go.Proofs.YtocobalkikkhlaaDoor.Pure

/-! ### Ip06 -/
namespace Go.Proofs.YtocobalkikkhlaaDoor.Pure
open Go.RowKit Go.Proofs.YtocobalkikkhlaaDoor.X Go.Proofs.YtocobalkikkhlaaDoorW.PrintWords Go.Proofs.YtocobalkikkhlaaDoorW.PrintLast Go.Proofs.YtocobalkikkhlaaDoorW.PrintMore

theorem wu64 {n : Int} (h : 0 ≤ n) (h' : n < 18446744073709551616) : IntKind.u64.wrap n = n := u64_wrap_id n h h'
theorem or8u (x b : Int) (h0 : 0 ≤ x) (h1 : x < 18446744073709551616) (hx : x % 256 = 0) (hb0 : 0 ≤ b) (hb : b < 256) : Go.bits .or .u64 x b = x + b :=
  bits_join .u64 64 (by decide) (fun n h h' => wu64 h (by omega)) 8 x b h0 (by omega) (by omega) hb0 (by omega) (by omega)
theorem shrU64 (n : Int) (i : Nat) (h : i ≤ 8) : shr .u64 n (8 * (i : Int)) = n / 256 ^ i := by
  unfold shr
  have e : IntKind.u64.bits = 64 := rfl
  rw [e, show (8 * (i : Int)).toNat = 8 * i by omega, Nat.min_eq_left (by omega), Int.pow_mul]
  rfl
theorem bt_get (s : ByteArray) (i : Nat) (h : i < (bytesOf s).length) : bt s (i : Int) = (bytesOf s)[i] := by
  rw [bt_eq, List.getD_eq_getElem?_getD, List.getElem?_eq_getElem h]
  rfl
theorem valBE_snoc (l : List Int) (c : Int) : valBE (l ++ [c]) = valBE l * 256 + c := by unfold valBE; rw [List.foldl_append]; rfl
theorem pow8 (n : Nat) (h : n ≤ 7) : (256 : Int) ^ n ≤ 72057594037927936 := by
  have hn : 256 ^ n ≤ 72057594037927936 := Nat.le_trans (Nat.pow_le_pow_right (by decide) h) (by decide)
  have hc : ((256 ^ n : Nat) : Int) = (256 : Int) ^ n := Int.natCast_pow 256 _
  omega
/-- The bytes of an address. -/
def adrB (v6 : Bool) (hi lo : Int) : List Int := if v6 = true then beN 8 hi ++ beN 8 lo else beN 4 lo
theorem adrB_range (v6 : Bool) (hi lo : Int) : ∀ x ∈ adrB v6 hi lo, 0 ≤ x ∧ x < 256 := by
  intro x hx
  unfold adrB at hx
  split at hx
  · rcases List.mem_append.mp hx with h | h <;> exact beN_range _ _ x h
  · exact beN_range _ _ x hx
theorem adrB_len (v6 : Bool) (hi lo : Int) : (adrB v6 hi lo).length = if v6 = true then 16 else 4 := by
  unfold adrB
  split <;> simp [beN_length]
theorem abytes_loop (n : Int) (z : Nat) (hz : z ≤ 8) : ∀ (m i k : Nat) (x : List Int), i + m = z → x.length ≤ i →
    address_bytes.l0 (k + m + 1) n z x z i = some (strOfNums (x ++ beN m n))
  | 0, i, k, x, h, hx => by
    unfold address_bytes.l0
    rw [if_neg (by omega)]
    simp [beN]
  | m + 1, i, k, x, h, hx => by
    rw [show k + (m + 1) + 1 = (k + m + 1) + 1 by omega]
    unfold address_bytes.l0
    rw [w64 (n := (z : Int) - 1) (by omega) (by omega), w64 (n := (z : Int) - 1 - i) (by omega) (by omega), w64 (n := 8 * ((z : Int) - 1 - i)) (by omega) (by omega), w64 (n := (i : Int) + 1) (by omega) (by omega)]
    rw [if_pos (by omega), if_pos (by omega), if_pos (by omega), show (z : Int) - 1 - i = (m : Int) by omega, shrU64 n m (by omega), show (i : Int) + 1 = ((i + 1 : Nat) : Int) by omega,
      abytes_loop n z hz m (i + 1) k _ (by omega) (by simp; omega)]
    simp [beN]
theorem abytes_is (n : Int) (z : Nat) (hz : z ≤ 8) (k : Nat) (hk : 10 ≤ k) : address_bytes.f k n z = some (strOfNums (beN z n)) := by
  have h := abytes_loop n z hz z 0 (k - z - 1) [] (by omega) (by simp)
  rw [show k - z - 1 + z + 1 = k by omega] at h
  unfold address_bytes.f
  simpa using h
theorem aBytes_is (v6 : Bool) (hi lo : Int) (k : Nat) (hk : 10 ≤ k) : address_Bytes.f k v6 hi lo = some (strOfNums (adrB v6 hi lo)) := by
  unfold address_Bytes.f adrB
  have a1 := abytes_is hi 8 (by omega) k hk
  have a2 := abytes_is lo 8 (by omega) k hk
  have a3 := abytes_is lo 4 (by omega) k hk
  rw [show ((8 : Nat) : Int) = 8 from rfl] at a1 a2
  rw [show ((4 : Nat) : Int) = 4 from rfl] at a3
  split
  · rw [a1, a2]
    simp only [bs]
    rw [if_pos (by rw [strOfNums_size, strOfNums_size, beN_length, beN_length]; omega), ← strOfNums_append]
  · rw [a3]
    simp only [bs]
/-- One byte more of a number of at most 8 bytes. -/
theorem val_step (l : List Int) (hl : ∀ x ∈ l, 0 ≤ x ∧ x < 256) (i : Nat) (h : i < l.length) (h8 : l.length ≤ 8) :
    Go.bits .or .u64 (IntKind.u64.wrap (valBE (l.take i) * 256)) l[i] = valBE (l.take (i + 1)) := by
  have ht : l.take (i + 1) = l.take i ++ [l[i]] := by rw [List.take_add_one]; simp [h]
  have hr := valBE_range (l.take i) (fun x hx => hl x (List.mem_of_mem_take hx))
  have hc := hl l[i] (List.getElem_mem h)
  have hp := pow8 (l.take i).length (by simp; omega)
  rw [ht, valBE_snoc, wu64 (by omega) (by omega), or8u _ _ (by omega) (by omega) (by omega) hc.1 hc.2]
end Go.Proofs.YtocobalkikkhlaaDoor.Pure

/-! ### Ip6A -/
namespace Go.Proofs.YtocobalkikkhlaaDoor.Pure
open Go.RowKit Go.Proofs.YtocobalkikkhlaaDoor.X Go.Proofs.YtocobalkikkhlaaDoorW.PrintWords Go.Proofs.YtocobalkikkhlaaDoorW.PrintLast Go.Proofs.YtocobalkikkhlaaDoorW.PrintMore

theorem str_bytes (s : ByteArray) : strOfNums (bytesOf s) = s := bytesOf_inj (bytesOf_strOfNums _ (bytesOf_range s))
theorem str_nil : strOfNums [] = (⟨#[]⟩ : ByteArray) := rfl
theorem nil_app (s : ByteArray) : s ++ (⟨#[]⟩ : ByteArray) = s := by apply bytesOf_inj; rw [bytesOf_append, bytesOf_nil, List.append_nil]
theorem app_nil (s : ByteArray) : (⟨#[]⟩ : ByteArray) ++ s = s := by apply bytesOf_inj; rw [bytesOf_append, bytesOf_nil, List.nil_append]
theorem app_assoc (a b c : ByteArray) : a ++ b ++ c = a ++ (b ++ c) := by apply bytesOf_inj; simp only [bytesOf_append, List.append_assoc]
end Go.Proofs.YtocobalkikkhlaaDoor.Pure

/-! ### Ip6Y -/
namespace Go.Proofs.YtocobalkikkhlaaDoor.Pure
open Go.RowKit Go.Proofs.YtocobalkikkhlaaDoor.X Go.Proofs.YtocobalkikkhlaaDoorW.PrintWords Go.Proofs.YtocobalkikkhlaaDoorW.PrintLast Go.Proofs.YtocobalkikkhlaaDoorW.PrintMore

theorem rB_loop1 (v : Bool) (hi lo : Int) : ∀ (m k : Nat) (x : List Int), m ≤ 8 → x.length ≤ 16 - m →
    intrusionref06_Bytes.l1 (k + m + 1) x ((m : Int) - 1) v hi lo = some (strOfNums (x ++ beN m lo))
  | 0, k, x, h, hx => by
    unfold intrusionref06_Bytes.l1
    rw [if_neg (by omega)]
    simp [beN]
  | m + 1, k, x, h, hx => by
    rw [show k + (m + 1) + 1 = (k + m + 1) + 1 by omega]
    unfold intrusionref06_Bytes.l1
    rw [show ((m + 1 : Nat) : Int) - 1 = (m : Int) by omega, w64 (n := 8 * (m : Int)) (by omega) (by omega), wu64 (n := 8 * (m : Int)) (by omega) (by omega), w64 (n := (m : Int) - 1) (by omega) (by omega),
      if_pos (by omega), if_pos (by omega), if_pos (by omega), shrU64 lo m (by omega), rB_loop1 v hi lo m k _ (by omega) (by simp; omega)]
    simp [beN]
theorem rB_loop0 (v : Bool) (hi lo : Int) : ∀ (m k : Nat) (x : List Int), m ≤ 8 → x.length ≤ 8 - m →
    intrusionref06_Bytes.l0 (k + m + 10) x ((m : Int) - 1) v hi lo = some (strOfNums (x ++ beN m hi ++ beN 8 lo))
  | 0, k, x, h, hx => by
    rw [show k + 0 + 10 = (k + 8 + 1) + 1 by omega]
    unfold intrusionref06_Bytes.l0
    rw [if_neg (by omega)]
    have := rB_loop1 v hi lo 8 k x (by omega) (by omega)
    rw [show ((8 : Nat) : Int) - 1 = 7 by omega] at this
    rw [this]
    simp [beN]
  | m + 1, k, x, h, hx => by
    rw [show k + (m + 1) + 10 = (k + m + 10) + 1 by omega]
    unfold intrusionref06_Bytes.l0
    rw [show ((m + 1 : Nat) : Int) - 1 = (m : Int) by omega, w64 (n := 8 * (m : Int)) (by omega) (by omega), wu64 (n := 8 * (m : Int)) (by omega) (by omega), w64 (n := (m : Int) - 1) (by omega) (by omega),
      if_pos (by omega), if_pos (by omega), if_pos (by omega), shrU64 hi m (by omega), rB_loop0 v hi lo m k _ (by omega) (by simp; omega)]
    simp [beN]
theorem rB_loop2 (v : Bool) (hi lo : Int) : ∀ (m k : Nat) (x : List Int), m ≤ 4 → x.length ≤ 4 - m →
    intrusionref06_Bytes.l2 (k + m + 1) x ((m : Int) - 1) v hi lo = some (strOfNums (x ++ beN m lo))
  | 0, k, x, h, hx => by
    unfold intrusionref06_Bytes.l2
    rw [if_neg (by omega)]
    simp [beN]
  | m + 1, k, x, h, hx => by
    rw [show k + (m + 1) + 1 = (k + m + 1) + 1 by omega]
    unfold intrusionref06_Bytes.l2
    rw [show ((m + 1 : Nat) : Int) - 1 = (m : Int) by omega, w64 (n := 8 * (m : Int)) (by omega) (by omega), wu64 (n := 8 * (m : Int)) (by omega) (by omega), w64 (n := (m : Int) - 1) (by omega) (by omega),
      if_pos (by omega), if_pos (by omega), if_pos (by omega), shrU64 lo m (by omega), rB_loop2 v hi lo m k _ (by omega) (by simp; omega)]
    simp [beN]
theorem rBytes_is (v6 : Bool) (hi lo : Int) (k : Nat) (hk : 20 ≤ k) : intrusionref06_Bytes.f k v6 hi lo = some (strOfNums (adrB v6 hi lo)) := by
  unfold intrusionref06_Bytes.f adrB
  split
  · have h := rB_loop0 v6 hi lo 8 (k - 18) [] (by omega) (by simp)
    rw [show k - 18 + 8 + 10 = k by omega, show ((8 : Nat) : Int) - 1 = 7 by omega] at h
    rw [h]; simp
  · have h := rB_loop2 v6 hi lo 4 (k - 5) [] (by omega) (by simp)
    rw [show k - 5 + 4 + 1 = k by omega, show ((4 : Nat) : Int) - 1 = 3 by omega] at h
    rw [h]; simp
end Go.Proofs.YtocobalkikkhlaaDoor.Pure

/-! ### Ip4E -/
set_option linter.unusedVariables false
set_option linter.unusedSimpArgs false
namespace Go.Proofs.YtocobalkikkhlaaDoor.Pure
open Go.RowKit Go.Proofs.YtocobalkikkhlaaDoor.X Go.Proofs.YtocobalkikkhlaaDoorW.PrintWords Go.Proofs.YtocobalkikkhlaaDoorW.PrintLast Go.Proofs.YtocobalkikkhlaaDoorW.PrintMore

theorem put_ok4 (n : Int) (z : Nat) (h1 : 1 ≤ z) (h7 : z ≤ 7) (h0 : 0 ≤ n) (hn : n < 256 ^ z) : putOf n z = strOfNums (beN z n) := by
  unfold putOf
  rw [if_pos ⟨by omega, by omega, h0, by rw [Int.toNat_natCast]; exact hn⟩, Int.toNat_natCast]
theorem put14 (n : Int) (h0 : 0 ≤ n) (hn : n ≤ 255) : putOf n 1 = strOfNums [n] := by
  have h := put_ok4 n 1 (by omega) (by omega) h0 (by omega)
  rw [show ((1 : Nat) : Int) = 1 from rfl] at h
  rw [h]
  simp [beN]
  congr 1
  congr 1
  omega
theorem put24 (n : Int) (h0 : 0 ≤ n) (hn : n ≤ 65535) : putOf n 2 = strOfNums (beN 2 n) := put_ok4 n 2 (by omega) (by omega) h0 (by omega)
theorem or64 : ∀ m : Fin 16, Go.bits .or .i64 64 (m.val : Int) = 64 + m.val := by decide +kernel
theorem or_first (n : Nat) (h : n ≤ 40) (h4 : n % 4 = 0) : Go.bits .or .i64 64 (wrap64 (Int.tdiv (20 + (n : Int)) 4)) = 64 + (20 + (n : Int)) / 4 := by
  have e : Int.tdiv (20 + (n : Int)) 4 = (((20 + n) / 4 : Nat) : Int) := by rw [Int.tdiv_eq_ediv_of_nonneg (by omega)]; omega
  rw [e, w64 (by omega) (by omega)]
  have := or64 ⟨(20 + n) / 4, by omega⟩
  rw [this]
  show (64 : Int) + (((20 + n) / 4 : Nat) : Int) = _
  omega
/-- The flags and the offset. -/
def flg (off : Int) (dn mr : Bool) : Int := off / 8 + (if dn = true then 16384 else 0) + (if mr = true then 8192 else 0)
section
variable (c id tt pr : Int) (dn mr : Bool) (off : Int) (v : Bool) (s1 s2 : Int) (w : Bool) (d1 d2 : Int)
/-- The bytes ahead of the checksum, and behind it. -/
def h4A (o p : ByteArray) : List Int := [64 + (20 + (o.size : Int)) / 4] ++ [c] ++ beN 2 (20 + (o.size : Int) + p.size) ++ beN 2 id ++ beN 2 (flg off dn mr) ++ [tt] ++ [pr]
def h4B (o : ByteArray) : List Int := adrB v s1 s2 ++ adrB w d1 d2 ++ bytesOf o
def e4Of (o p : ByteArray) : ByteArray := strOfNums (h4A c id tt pr dn mr off o p ++ beN 2 (sumOf (strOfNums (h4A c id tt pr dn mr off o p ++ [0, 0] ++ h4B v s1 s2 w d1 d2 o))) ++ h4B v s1 s2 w d1 d2 o ++ bytesOf p)
def okN4 : Prop := (0 ≤ c ∧ c ≤ 255) ∧ (0 ≤ tt ∧ tt ≤ 255) ∧ (0 ≤ pr ∧ pr ≤ 255) ∧ (0 ≤ id ∧ id ≤ 65535) ∧ (0 ≤ off ∧ off ≤ 65528) ∧ Int.tmod off 8 = 0
instance : Decidable (okN4 c id tt pr off) := by unfold okN4; infer_instance
def ok4 : Prop := okN4 c id tt pr off ∧ (v = false ∧ s1 = 0 ∧ s2 ≤ 4294967295) ∧ (w = false ∧ d1 = 0 ∧ d2 ≤ 4294967295)
instance : Decidable (ok4 c id tt pr off v s1 s2 w d1 d2) := by unfold ok4; infer_instance
theorem flg_range (h0 : 0 ≤ off) (h1 : off ≤ 65528) : 0 ≤ flg off dn mr ∧ flg off dn mr ≤ 65535 := by
  unfold flg
  split <;> split <;> omega
theorem z00 : (⟨#[0, 0]⟩ : ByteArray) = strOfNums [0, 0] := by decide +kernel
theorem two_str (a b : Int) : strOfNums [a, b] = strOfNums [a] ++ strOfNums [b] := strOfNums_append [a] [b]
variable (l : List S125)
theorem j2_4 (o p : ByteArray) (ho : o.size ≤ 40) (ho4 : o.size % 4 = 0) (hp : 20 + o.size + p.size ≤ 65535) (hN : okN4 c id tt pr off) (k : Nat) (hk : 65600 ≤ k) :
    ipv4_Encode.j2 (k + 1) o (20 + (o.size : Int)) (flg off dn mr) c id tt pr dn mr off v s1 s2 w d1 d2 l p = some (e4Of c id tt pr dn mr off v s1 s2 w d1 d2 o p, 0) := by
  obtain ⟨hc, htt, hpr, hid, hoff, -⟩ := hN
  have hf := flg_range dn mr off hoff.1 hoff.2
  have a1 := adrB_len v s1 s2
  have a2 := adrB_len w d1 d2
  have a1' : (adrB v s1 s2).length ≤ 16 := by rw [a1]; split <;> omega
  have a2' : (adrB w d1 d2).length ≤ 16 := by rw [a2]; split <;> omega
  clear a1 a2
  have zs : ∀ q : List Int, (strOfNums q).size = q.length := strOfNums_size
  have P1 : field_Put.f k (64 + (20 + (o.size : Int)) / 4) 1 = some (strOfNums [64 + (20 + (o.size : Int)) / 4]) := by rw [put_is _ _ k (by omega), put14 _ (by omega) (by omega)]
  have P2 : field_Put.f k c 1 = some (strOfNums [c]) := by rw [put_is _ _ k (by omega), put14 _ hc.1 hc.2]
  have P3 : field_Put.f k (20 + (o.size : Int) + p.size) 2 = some (strOfNums (beN 2 (20 + (o.size : Int) + p.size))) := by rw [put_is _ _ k (by omega), put24 _ (by omega) (by omega)]
  have P4 : field_Put.f k id 2 = some (strOfNums (beN 2 id)) := by rw [put_is _ _ k (by omega), put24 _ hid.1 hid.2]
  have P5 : field_Put.f k (flg off dn mr) 2 = some (strOfNums (beN 2 (flg off dn mr))) := by rw [put_is _ _ k (by omega), put24 _ hf.1 hf.2]
  have P6 : field_Put.f k tt 1 = some (strOfNums [tt]) := by rw [put_is _ _ k (by omega), put14 _ htt.1 htt.2]
  have P7 : field_Put.f k pr 1 = some (strOfNums [pr]) := by rw [put_is _ _ k (by omega), put14 _ hpr.1 hpr.2]
  have hS := sumOf_range (strOfNums (h4A c id tt pr dn mr off o p ++ [0, 0] ++ h4B v s1 s2 w d1 d2 o))
  have P8 : field_Put.f k (sumOf (strOfNums (h4A c id tt pr dn mr off o p ++ [0, 0] ++ h4B v s1 s2 w d1 d2 o))) 2 = some (strOfNums (beN 2 (sumOf (strOfNums (h4A c id tt pr dn mr off o p ++ [0, 0] ++ h4B v s1 s2 w d1 d2 o))))) := by rw [put_is _ _ k (by omega), put24 _ hS.1 hS.2]
  have eA : strOfNums [64 + (20 + (o.size : Int)) / 4] ++ strOfNums [c] ++ strOfNums (beN 2 (20 + (o.size : Int) + p.size)) ++ strOfNums (beN 2 id) ++ strOfNums (beN 2 (flg off dn mr)) ++ strOfNums [tt] ++ strOfNums [pr] = strOfNums (h4A c id tt pr dn mr off o p) := by
    unfold h4A
    simp only [strOfNums_append]
  have eB : strOfNums (adrB v s1 s2) ++ strOfNums (adrB w d1 d2) ++ o = strOfNums (h4B v s1 s2 w d1 d2 o) := by
    unfold h4B
    simp only [strOfNums_append, str_bytes]
  have zA : (h4A c id tt pr dn mr off o p).length = 10 := by unfold h4A; simp [beN_length]
  have zB : (h4B v s1 s2 w d1 d2 o).length ≤ 32 + o.size := by unfold h4B; simp only [List.length_append, bytesOf_length]; omega
  rw [ipv4_Encode.j2, or_first o.size ho ho4, P1]
  simp only [bs]
  rw [P2]
  simp only [bs]
  rw [if_pos (by simp only [size_append, zs, beN_length, List.length_cons, List.length_nil]; omega), w64 (n := 20 + (o.size : Int) + p.size) (by omega) (by omega), P3]
  simp only [bs]
  rw [if_pos (by simp only [size_append, zs, beN_length, List.length_cons, List.length_nil]; omega), P4]
  simp only [bs]
  rw [if_pos (by simp only [size_append, zs, beN_length, List.length_cons, List.length_nil]; omega), P5]
  simp only [bs]
  rw [if_pos (by simp only [size_append, zs, beN_length, List.length_cons, List.length_nil]; omega), P6]
  simp only [bs]
  rw [if_pos (by simp only [size_append, zs, beN_length, List.length_cons, List.length_nil]; omega), P7]
  simp only [bs]
  rw [if_pos (by simp only [size_append, zs, beN_length, List.length_cons, List.length_nil]; omega), aBytes_is _ _ _ k (by omega), aBytes_is _ _ _ k (by omega)]
  simp only [bs]
  rw [eA, eB, z00, if_pos (by simp only [zs]; omega), if_pos (by simp only [size_append, zs]; omega), if_pos (by simp only [zs, List.length_cons, List.length_nil]; omega), if_pos (by simp only [size_append, zs, List.length_cons, List.length_nil]; omega), ← strOfNums_append, ← strOfNums_append, sum_is _ (by simp only [zs, List.length_append, List.length_cons, List.length_nil]; omega) k (by simp only [zs, List.length_append, List.length_cons, List.length_nil]; omega)]
  simp only [bs]
  rw [P8]
  simp only [bs]
  rw [if_pos (by simp only [zs, beN_length]; omega), if_pos (by simp only [size_append, zs, beN_length]; omega), if_pos (by simp only [size_append, zs, beN_length]; omega)]
  unfold e4Of
  simp only [strOfNums_append, str_bytes]
theorem rj2_4 (o p : ByteArray) (ho : o.size ≤ 40) (ho4 : o.size % 4 = 0) (hp : 20 + o.size + p.size ≤ 65535) (hN : okN4 c id tt pr off) (k : Nat) (hk : 65600 ≤ k) :
    intrusionref11_Encode.j2 (k + 1) o (20 + (o.size : Int)) (flg off dn mr) c id tt pr dn mr off v s1 s2 w d1 d2 l p = some (e4Of c id tt pr dn mr off v s1 s2 w d1 d2 o p, 0) := by
  obtain ⟨hc, htt, hpr, hid, hoff, -⟩ := hN
  have hf := flg_range dn mr off hoff.1 hoff.2
  have a1 := adrB_len v s1 s2
  have a2 := adrB_len w d1 d2
  have a1' : (adrB v s1 s2).length ≤ 16 := by rw [a1]; split <;> omega
  have a2' : (adrB w d1 d2).length ≤ 16 := by rw [a2]; split <;> omega
  clear a1 a2
  have zs : ∀ q : List Int, (strOfNums q).size = q.length := strOfNums_size
  have P3 : intrusionref01_Put.f k (20 + (o.size : Int) + p.size) 2 = some (strOfNums (beN 2 (20 + (o.size : Int) + p.size))) := by rw [rput_all _ _ k (by omega) (by omega) (by omega), put24 _ (by omega) (by omega)]
  have P4 : intrusionref01_Put.f k id 2 = some (strOfNums (beN 2 id)) := by rw [rput_all _ _ k (by omega) (by omega) (by omega), put24 _ hid.1 hid.2]
  have P5 : intrusionref01_Put.f k (flg off dn mr) 2 = some (strOfNums (beN 2 (flg off dn mr))) := by rw [rput_all _ _ k (by omega) (by omega) (by omega), put24 _ hf.1 hf.2]
  have hS := sumOf_range (strOfNums (h4A c id tt pr dn mr off o p ++ [0, 0] ++ h4B v s1 s2 w d1 d2 o))
  have P8 : intrusionref01_Put.f k (sumOf (strOfNums (h4A c id tt pr dn mr off o p ++ [0, 0] ++ h4B v s1 s2 w d1 d2 o))) 2 = some (strOfNums (beN 2 (sumOf (strOfNums (h4A c id tt pr dn mr off o p ++ [0, 0] ++ h4B v s1 s2 w d1 d2 o))))) := by rw [rput_all _ _ k (by omega) (by omega) (by omega), put24 _ hS.1 hS.2]
  have eA : strOfNums [64 + (20 + (o.size : Int)) / 4, c] ++ strOfNums (beN 2 (20 + (o.size : Int) + p.size)) ++ strOfNums (beN 2 id) ++ strOfNums (beN 2 (flg off dn mr)) ++ strOfNums [tt, pr] = strOfNums (h4A c id tt pr dn mr off o p) := by
    unfold h4A
    simp only [strOfNums_append, two_str, app_assoc]
  have eB : strOfNums (adrB v s1 s2) ++ strOfNums (adrB w d1 d2) ++ o = strOfNums (h4B v s1 s2 w d1 d2 o) := by
    unfold h4B
    simp only [strOfNums_append, str_bytes]
  have zA : (h4A c id tt pr dn mr off o p).length = 10 := by unfold h4A; simp [beN_length]
  have zB : (h4B v s1 s2 w d1 d2 o).length ≤ 32 + o.size := by unfold h4B; simp only [List.length_append, bytesOf_length]; omega
  have e1 : (wrap64 (64 + (wrap64 (Int.tdiv (20 + (o.size : Int)) 4)))) % 256 = 64 + (20 + (o.size : Int)) / 4 := by
    have e : Int.tdiv (20 + (o.size : Int)) 4 = (20 + (o.size : Int)) / 4 := Int.tdiv_eq_ediv_of_nonneg (by omega)
    rw [e, w64 (n := (20 + (o.size : Int)) / 4) (by omega) (by omega), w64 (by omega) (by omega)]
    omega
  rw [intrusionref11_Encode.j2, e1, show c % 256 = c by omega, show tt % 256 = tt by omega, show pr % 256 = pr by omega, w64 (n := 20 + (o.size : Int) + p.size) (by omega) (by omega)]
  simp only [bs]
  rw [P3]
  simp only [bs]
  rw [if_pos (by simp only [size_append, zs, beN_length, List.length_cons, List.length_nil]; omega), P4]
  simp only [bs]
  rw [if_pos (by simp only [size_append, zs, beN_length, List.length_cons, List.length_nil]; omega), P5]
  simp only [bs]
  rw [if_pos (by simp only [size_append, zs, beN_length, List.length_cons, List.length_nil]; omega), if_pos (by simp only [size_append, zs, beN_length, List.length_cons, List.length_nil]; omega), rBytes_is _ _ _ k (by omega), rBytes_is _ _ _ k (by omega)]
  simp only [bs]
  rw [eA, eB, z00, if_pos (by simp only [zs]; omega), if_pos (by simp only [size_append, zs]; omega), if_pos (by simp only [zs, List.length_cons, List.length_nil]; omega), if_pos (by simp only [size_append, zs, List.length_cons, List.length_nil]; omega), ← strOfNums_append, ← strOfNums_append, rsum_is _ (by simp only [zs, List.length_append, List.length_cons, List.length_nil]; omega) k (by simp only [zs, List.length_append, List.length_cons, List.length_nil]; omega)]
  simp only [bs]
  rw [P8]
  simp only [bs]
  rw [if_pos (by simp only [zs, beN_length]; omega), if_pos (by simp only [size_append, zs, beN_length]; omega), if_pos (by simp only [size_append, zs, beN_length]; omega)]
  unfold e4Of
  simp only [strOfNums_append, str_bytes]
end
theorem outside_is (x m : Int) : ipv4_outside.f x m = some (!decide (0 ≤ x ∧ x ≤ m)) := by
  unfold ipv4_outside.f
  by_cases a : x < 0
  · rw [if_pos a, decide_eq_false (fun z => by omega)]; rfl
  · rw [if_neg a]
    by_cases b : x > m
    · rw [decide_eq_true b, decide_eq_false (fun z => by omega)]; rfl
    · rw [decide_eq_false b, decide_eq_true (show 0 ≤ x ∧ x ≤ m by omega)]; rfl
theorem host_is (v : Bool) (s1 s2 : Int) : ipv4_host.f v s1 s2 = some (decide (v = false ∧ s1 = 0 ∧ s2 ≤ 4294967295)) := by
  unfold ipv4_host.f address_Valid.f
  cases v with
  | true => rw [if_pos rfl]; simp
  | false =>
    rw [if_neg (by decide), if_neg (by decide)]
    by_cases a : s1 = 0
    · rw [if_pos a]
      simp [bs, a]
    · rw [if_neg a]
      simp [bs, a]
theorem raddress_is (v : Bool) (s1 s2 : Int) : intrusionref11_address.f v s1 s2 = some (decide (v = false ∧ s1 = 0 ∧ s2 ≤ 4294967295)) := by
  unfold intrusionref11_address.f intrusionref06_Valid.f
  cases v with
  | true => simp
  | false =>
    rw [if_neg (by decide)]
    by_cases a : s1 = 0
    · rw [if_pos a]
      simp only [bs]
      by_cases b : s2 < 4294967296
      · rw [if_pos (by simp [b])]
        simp [a]; omega
      · rw [if_neg (by simp [b])]
        simp [a]; omega
    · rw [if_neg a]
      simp [bs, a]
theorem ifnd {α : Type} (P : Prop) [Decidable P] (A B : α) : (if (!decide P) = true then A else B) = if P then B else A := by
  by_cases h : P
  · rw [if_pos h, if_neg (by simp [h])]
  · rw [if_neg h, if_pos (by simp [h])]
theorem ifd {α : Type} (P : Prop) [Decidable P] (A B : α) : (if decide P = true then A else B) = if P then A else B := by
  by_cases h : P
  · rw [if_pos h, if_pos (by simp [h])]
  · rw [if_neg h, if_neg (by simp [h])]
section
variable (c id tt pr : Int) (dn mr : Bool) (off : Int) (v : Bool) (s1 s2 : Int) (w : Bool) (d1 d2 : Int) (p : ByteArray)
theorem inRange_nil (k : Nat) : ipv4_inRange.f (k + 2) c id tt pr dn mr off v s1 s2 w d1 d2 [] p = some (decide (ok4 c id tt pr off v s1 s2 w d1 d2)) := by
  have ho : api_Option_100.f (k + 1) [] = some false := by
    unfold api_Option_100.f
    rw [api_Option_100.l0, if_neg (by decide)]
    rfl
  have hj : ∀ b : Bool, ipv4_inRange.j0 (k + 2) b c id tt pr dn mr off v s1 s2 w d1 d2 [] p = some (!b && decide ((v = false ∧ s1 = 0 ∧ s2 ≤ 4294967295) ∧ (w = false ∧ d1 = 0 ∧ d2 ≤ 4294967295))) := by
    intro b
    rw [ipv4_inRange.j0]
    cases b with
    | true => rw [if_pos rfl]; rfl
    | false =>
      rw [if_neg (by decide), host_is, host_is, ho]
      simp only [bs, ifd]
      by_cases a : v = false ∧ s1 = 0 ∧ s2 ≤ 4294967295
      · rw [if_pos a]
        by_cases b : w = false ∧ d1 = 0 ∧ d2 ≤ 4294967295
        · rw [if_pos b, decide_eq_true ⟨a, b⟩]; rfl
        · rw [if_neg b, decide_eq_false (fun z => b z.2)]; rfl
      · rw [if_neg a, decide_eq_false (fun z => a z.1)]; rfl
  unfold ipv4_inRange.f
  simp only [outside_is, bs, hj, ifnd]
  by_cases h1 : 0 ≤ c ∧ c ≤ 255
  · rw [if_pos h1]
    by_cases h2 : 0 ≤ tt ∧ tt ≤ 255
    · rw [if_pos h2]
      by_cases h3 : 0 ≤ pr ∧ pr ≤ 255
      · rw [if_pos h3]
        by_cases h4 : 0 ≤ id ∧ id ≤ 65535
        · rw [if_pos h4]
          by_cases h5 : 0 ≤ off ∧ off ≤ 65528
          · rw [if_pos h5]
            by_cases h6 : Int.tmod off 8 = 0
            · rw [show (Int.tmod off 8 != 0) = false by simp [h6]]
              congr 1
              rw [Bool.not_false, Bool.true_and]
              apply decide_eq_decide.mpr
              exact ⟨fun z => ⟨⟨h1, h2, h3, h4, h5, h6⟩, z⟩, fun z => z.2⟩
            · rw [show (Int.tmod off 8 != 0) = true by simp [h6], decide_eq_false (fun z : ok4 c id tt pr off v s1 s2 w d1 d2 => h6 z.1.2.2.2.2.2)]; rfl
          · rw [if_neg h5, decide_eq_false (fun z : ok4 c id tt pr off v s1 s2 w d1 d2 => h5 z.1.2.2.2.2.1)]; rfl
        · rw [if_neg h4, decide_eq_false (fun z : ok4 c id tt pr off v s1 s2 w d1 d2 => h4 z.1.2.2.2.1)]; rfl
      · rw [if_neg h3, decide_eq_false (fun z : ok4 c id tt pr off v s1 s2 w d1 d2 => h3 z.1.2.2.1)]; rfl
    · rw [if_neg h2, decide_eq_false (fun z : ok4 c id tt pr off v s1 s2 w d1 d2 => h2 z.1.2.1)]; rfl
  · rw [if_neg h1, decide_eq_false (fun z : ok4 c id tt pr off v s1 s2 w d1 d2 => h1 z.1.1)]; rfl
/-- What Encode answers for a packet with no options. -/
def enc0Of : ByteArray × Int := if ok4 c id tt pr off v s1 s2 w d1 d2 then (if 20 + (p.size : Int) > 65535 then (⟨#[]⟩, 3) else (e4Of c id tt pr false false off v s1 s2 w d1 d2 ⟨#[]⟩ p, 0)) else (⟨#[]⟩, 4)
theorem flg0 (h : 0 ≤ off ∧ off ≤ 65528) : wrap64 (Int.tdiv off 8) = flg off false false := by
  rw [Int.tdiv_eq_ediv_of_nonneg h.1, w64 (by omega) (by omega)]
  unfold flg
  simp
theorem encode4_nil (hp : p.size ≤ 4611686018427387904) (k : Nat) (hk : 65610 ≤ k) :
    ipv4_Encode.f k c id tt pr false false off v s1 s2 w d1 d2 [] p = some (enc0Of c id tt pr off v s1 s2 w d1 d2 p) := by
  obtain ⟨q, rfl⟩ : ∃ q, k = q + 3 := ⟨k - 3, by omega⟩
  have hw : ipv4_written.f (q + 3) [] = some (⟨#[]⟩, true) := by
    rw [ipv4_written.f, ipv4_written.l0, if_neg (by decide), if_neg (by decide), ipv4_written.l1, if_neg (by decide)]
  unfold ipv4_Encode.f enc0Of
  rw [inRange_nil c id tt pr false false off v s1 s2 w d1 d2 p (q + 1), hw]
  simp only [bs, ifd]
  by_cases h : ok4 c id tt pr off v s1 s2 w d1 d2
  · rw [if_pos h, if_pos h, if_pos trivial, show wrap64 (20 + (((⟨#[]⟩ : ByteArray).size : Nat) : Int)) = 20 by decide +kernel, show wrap64 (65535 - 20) = 65515 by decide +kernel, ipv4_Encode.j0]
    by_cases a : (p.size : Int) > 65515
    · rw [if_pos (by simp [a]), if_pos (by omega)]
    · rw [if_neg (by simp [a]), if_neg (by decide), ipv4_Encode.j1, if_neg (by decide), flg0 off h.1.2.2.2.2.1, if_neg (by omega)]
      have := j2_4 c id tt pr false false off v s1 s2 w d1 d2 [] ⟨#[]⟩ p (by decide) (by decide) (by rw [show (⟨#[]⟩ : ByteArray).size = 0 from rfl]; omega) h.1 q (by omega)
      exact this
  · rw [if_neg h, if_neg h]
theorem rencode4_nil (hp : p.size ≤ 4611686018427387904) (k : Nat) (hk : 65610 ≤ k) :
    intrusionref11_Encode.f k c id tt pr false false off v s1 s2 w d1 d2 [] p = some (enc0Of c id tt pr off v s1 s2 w d1 d2 p) := by
  obtain ⟨q, rfl⟩ : ∃ q, k = q + 3 := ⟨k - 3, by omega⟩
  have hb : ∀ x : Int, intrusionref11_byteSized.f x = some (decide (0 ≤ x ∧ x ≤ 255)) := by
    intro x
    unfold intrusionref11_byteSized.f
    by_cases a : x ≥ 0
    · rw [if_pos a]; congr 1; apply decide_eq_decide.mpr; omega
    · rw [if_neg a, decide_eq_false (fun z => by omega)]
  have hkd : intrusionref11_Kinds.f (q + 3) [] = some true := by
    rw [intrusionref11_Kinds.f, intrusionref11_Kinds.l0, if_neg (by decide)]
  have hnd : intrusionref11_Need.f (q + 2) [] = some 0 := by
    rw [intrusionref11_Need.f, intrusionref11_Need.l0, if_neg (by decide)]
  have hw : intrusionref11_Written.f (q + 2) [] = some ⟨#[]⟩ := by
    rw [intrusionref11_Written.f, intrusionref11_Written.l0, if_neg (by decide), intrusionref11_Written.l1, if_pos (by decide)]
  have hno : intrusionref11_Encode.j0 (q + 3) true c id tt pr false false off v s1 s2 w d1 d2 [] p = some (⟨#[]⟩, 4) := by
    rw [intrusionref11_Encode.j0, if_pos rfl]
  unfold intrusionref11_Encode.f enc0Of
  simp only [hb, bs, ifd, raddress_is, hkd, hno]
  by_cases h1 : 0 ≤ c ∧ c ≤ 255
  · rw [if_pos h1]
    by_cases h2 : 0 ≤ tt ∧ tt ≤ 255
    · rw [if_pos h2]
      by_cases h3 : 0 ≤ pr ∧ pr ≤ 255
      · rw [if_pos h3]
        by_cases h4 : id < 0
        · rw [if_pos h4, if_neg (fun z : ok4 c id tt pr off v s1 s2 w d1 d2 => by have := z.1.2.2.2.1; omega)]
        · rw [if_neg h4]
          by_cases h5 : id > 65535
          · rw [if_pos h5, if_neg (fun z : ok4 c id tt pr off v s1 s2 w d1 d2 => by have := z.1.2.2.2.1; omega)]
          · rw [if_neg h5]
            by_cases h6 : off < 0
            · rw [if_pos h6, if_neg (fun z : ok4 c id tt pr off v s1 s2 w d1 d2 => by have := z.1.2.2.2.2.1; omega)]
            · rw [if_neg h6]
              by_cases h7 : off > 65528
              · rw [if_pos h7, if_neg (fun z : ok4 c id tt pr off v s1 s2 w d1 d2 => by have := z.1.2.2.2.2.1; omega)]
              · rw [if_neg h7]
                by_cases h8 : Int.tmod off 8 = 0
                · rw [if_pos h8]
                  by_cases h9 : v = false ∧ s1 = 0 ∧ s2 ≤ 4294967295
                  · rw [if_pos h9]
                    by_cases h10 : w = false ∧ d1 = 0 ∧ d2 ≤ 4294967295
                    · have hN : okN4 c id tt pr off := ⟨h1, h2, h3, by omega, by omega, h8⟩
                      rw [if_pos h10, if_pos (show ok4 c id tt pr off v s1 s2 w d1 d2 from ⟨hN, h9, h10⟩), intrusionref11_Encode.j0, if_neg (by decide), hnd]
                      simp only [bs]
                      rw [if_neg (by decide), hw]
                      simp only [bs]
                      rw [show wrap64 (20 + (((⟨#[]⟩ : ByteArray).size : Nat) : Int)) = 20 by decide +kernel, w64 (n := 20 + (p.size : Int)) (by omega) (by omega)]
                      by_cases a : 20 + (p.size : Int) > 65535
                      · rw [if_pos a, if_pos a]
                      · rw [if_neg a, if_neg a, if_neg (by decide), intrusionref11_Encode.j1, if_neg (by decide), flg0 off (by omega)]
                        have := rj2_4 c id tt pr false false off v s1 s2 w d1 d2 [] ⟨#[]⟩ p (by decide) (by decide) (by rw [show (⟨#[]⟩ : ByteArray).size = 0 from rfl]; omega) hN q (by omega)
                        exact this
                    · rw [if_neg h10, if_neg (fun z : ok4 c id tt pr off v s1 s2 w d1 d2 => h10 z.2.2)]
                  · rw [if_neg h9, if_neg (fun z : ok4 c id tt pr off v s1 s2 w d1 d2 => h9 z.2.1)]
                · rw [if_neg h8, if_neg (fun z : ok4 c id tt pr off v s1 s2 w d1 d2 => h8 z.1.2.2.2.2.2)]
      · rw [if_neg h3, if_neg (fun z : ok4 c id tt pr off v s1 s2 w d1 d2 => h3 z.1.2.2.1)]
    · rw [if_neg h2, if_neg (fun z : ok4 c id tt pr off v s1 s2 w d1 d2 => h2 z.1.2.1)]
  · rw [if_neg h1, if_neg (fun z : ok4 c id tt pr off v s1 s2 w d1 d2 => h1 z.1.1)]
end
end Go.Proofs.YtocobalkikkhlaaDoor.Pure

/-! ### Ip60 -/
set_option linter.unusedVariables false
set_option linter.unusedSimpArgs false
namespace Go.Proofs.YtocobalkikkhlaaDoor.Pure
open Go.RowKit Go.Proofs.YtocobalkikkhlaaDoor.X Go.Proofs.YtocobalkikkhlaaDoorW.PrintWords Go.Proofs.YtocobalkikkhlaaDoorW.PrintLast Go.Proofs.YtocobalkikkhlaaDoorW.PrintMore

def isExt (n : Int) : Prop := n = 0 ∨ n = 43 ∨ n = 60
instance (n : Int) : Decidable (isExt n) := by unfold isExt; infer_instance
theorem ext_is (n : Int) : ipv6_extension.f n = some (decide (isExt n)) := by
  unfold ipv6_extension.f isExt
  by_cases h0 : n = 0
  · rw [if_pos h0]; simp [h0]
  · rw [if_neg h0]
    by_cases h1 : n = 43
    · rw [if_pos h1]; simp [h1]
    · rw [if_neg h1]
      by_cases h2 : n = 60
      · simp [h2]
      · simp [h0, h1, h2]
theorem within_loop (t : Int) (l : List Int) (hl : l.length ≤ 4611686018427387904) : ∀ (m i k : Nat), i + m = l.length →
    ipv6_within.l0 (k + m + 1) t l l.length i = some (decide (∀ x ∈ l.drop i, 0 ≤ x ∧ x ≤ t))
  | 0, i, k, h => by
    unfold ipv6_within.l0
    rw [if_neg (by omega), List.drop_eq_nil_of_le (by omega)]
    simp
  | m + 1, i, k, h => by
    have hlt : i < l.length := by omega
    have hrd : rd l (i : Int) = l[i] := by unfold rd; rw [Int.toNat_natCast, List.getD_eq_getElem?_getD, List.getElem?_eq_getElem hlt]; rfl
    have ih := within_loop t l hl m (i + 1) k (by omega)
    rw [show k + (m + 1) + 1 = (k + m + 1) + 1 by omega]
    unfold ipv6_within.l0
    rw [if_pos (by omega), if_pos (by omega), if_pos (by omega), hrd, List.drop_eq_getElem_cons hlt, w64 (n := (i : Int) + 1) (by omega) (by omega), show (i : Int) + 1 = ((i + 1 : Nat) : Int) by omega, ih]
    by_cases a : l[i] < 0
    · rw [if_pos a]
      congr 1
      rw [eq_comm, decide_eq_false_iff_not]
      intro h2
      have := h2 l[i] (List.mem_cons.mpr (.inl rfl))
      omega
    · rw [if_neg a]
      by_cases b : l[i] > t
      · rw [if_pos b]
        congr 1
        rw [eq_comm, decide_eq_false_iff_not]
        intro h2
        have := h2 l[i] (List.mem_cons.mpr (.inl rfl))
        omega
      · rw [if_neg b]
        congr 1
        apply decide_eq_decide.mpr
        constructor
        · intro h2 x hx
          rcases List.mem_cons.mp hx with e | e
          · rw [e]; omega
          · exact h2 x e
        · intro h2 x hx
          exact h2 x (List.mem_cons.mpr (.inr hx))
theorem within_is (t : Int) (l : List Int) (hl : l.length ≤ 1000) (k : Nat) (hk : l.length + 1 ≤ k) : ipv6_within.f k t l = some (decide (∀ x ∈ l, 0 ≤ x ∧ x ≤ t)) := by
  have h := within_loop t l (by omega) l.length 0 (k - l.length - 1) (by omega)
  rw [show k - l.length - 1 + l.length + 1 = k by omega] at h
  unfold ipv6_within.f
  simpa using h
theorem within1 (t a : Int) (k : Nat) (hk : 10 ≤ k) : ipv6_within.f k t [a] = some (decide (0 ≤ a ∧ a ≤ t)) := by
  rw [within_is t [a] (by simp) k (by simp; omega)]
  simp
theorem within3 (t a b c : Int) (k : Nat) (hk : 10 ≤ k) : ipv6_within.f k t [a, b, c] = some (decide ((0 ≤ a ∧ a ≤ t) ∧ (0 ≤ b ∧ b ≤ t) ∧ (0 ≤ c ∧ c ≤ t))) := by
  rw [within_is t [a, b, c] (by simp) k (by simp; omega)]
  congr 1
  apply decide_eq_decide.mpr
  constructor
  · intro h
    exact ⟨h a (by simp), h b (by simp), h c (by simp)⟩
  · rintro ⟨h1, h2, h3⟩ x hx
    simp only [List.mem_cons, List.not_mem_nil, or_false] at hx
    rcases hx with rfl | rfl | rfl
    · exact h1
    · exact h2
    · exact h3
theorem put_ok (n : Int) (z : Nat) (h1 : 1 ≤ z) (h7 : z ≤ 7) (h0 : 0 ≤ n) (hn : n < 256 ^ z) : putOf n z = strOfNums (beN z n) := by
  unfold putOf
  rw [if_pos ⟨by omega, by omega, h0, by rw [Int.toNat_natCast]; exact hn⟩, Int.toNat_natCast]
theorem put1_ok (n : Int) (h0 : 0 ≤ n) (hn : n ≤ 255) : putOf n 1 = strOfNums [n] := by
  have h := put_ok n 1 (by omega) (by omega) h0 (by omega)
  rw [show ((1 : Nat) : Int) = 1 from rfl] at h
  rw [h]
  simp [beN]
  congr 1
  congr 1
  omega
def joinOf : List S93 → ByteArray
  | [] => ⟨#[]⟩
  | x :: r => putOf x.f0 x.f1 ++ joinOf r
theorem rd64 (l : List S93) (i : Nat) (h : i < l.length) : rd_T93 l (i : Int) = l[i] := by
  unfold rd_T93
  rw [Int.toNat_natCast, List.getD_eq_getElem?_getD, List.getElem?_eq_getElem h]
  rfl
theorem join_loop (l : List S93) (hl : l.length ≤ 1000) : ∀ (m i k : Nat) (x : ByteArray), i + m = l.length → x.size ≤ 7 * i →
    ipv6_join.l0 (k + m + 11) x l l.length i = some (x ++ joinOf (l.drop i))
  | 0, i, k, x, h, hx => by
    rw [show k + 0 + 11 = (k + 10) + 1 by omega]
    unfold ipv6_join.l0
    rw [if_neg (by omega), List.drop_eq_nil_of_le (by omega)]
    simp only [joinOf, nil_app]
  | m + 1, i, k, x, h, hx => by
    have hlt : i < l.length := by omega
    have hp := putOf_len l[i].f0 l[i].f1
    rw [show k + (m + 1) + 11 = (k + m + 11) + 1 by omega]
    unfold ipv6_join.l0
    rw [if_pos (by omega), if_pos (by omega), if_pos (by omega), rd64 l i hlt, put_is _ _ _ (by omega)]
    simp only [bs]
    rw [if_pos (by omega), w64 (n := (i : Int) + 1) (by omega) (by omega), show (i : Int) + 1 = ((i + 1 : Nat) : Int) by omega, join_loop l hl m (i + 1) k _ (by omega) (by rw [size_append]; omega), List.drop_eq_getElem_cons hlt]
    simp only [joinOf, app_assoc]
theorem join_is (l : List S93) (hl : l.length ≤ 1000) (k : Nat) (hk : l.length + 11 ≤ k) : ipv6_join.f k l = some (joinOf l) := by
  have h := join_loop l hl l.length 0 (k - l.length - 11) ⟨#[]⟩ (by omega) (by decide)
  rw [show k - l.length - 11 + l.length + 11 = k by omega] at h
  unfold ipv6_join.f
  rw [show ((0 : Nat) : Int) = 0 from rfl, List.drop_zero, app_nil] at h
  exact h
section
variable (h n : Int) (v : Bool) (s1 s2 : Int) (w : Bool) (d1 d2 : Int) (p : ByteArray)
def ok6 : Prop := (0 ≤ h ∧ h ≤ 255) ∧ (0 ≤ n ∧ n ≤ 255) ∧ ¬ isExt n ∧ n ≠ 44 ∧ v = true ∧ w = true
instance : Decidable (ok6 h n v w) := by unfold ok6; infer_instance
def h6 : List Int := beN 4 1610612736 ++ beN 2 p.size ++ [n] ++ [h] ++ adrB v s1 s2 ++ adrB w d1 d2
/-- What Encode answers for a packet with no headers and no fragment. -/
def enc6Of : ByteArray × Int := if ok6 h n v w then (if (p.size : Int) > 65535 then (⟨#[]⟩, 3) else (strOfNums (h6 h n v s1 s2 w d1 d2 p ++ bytesOf p), 0)) else (⟨#[]⟩, 4)
theorem check6 (k : Nat) (hk : 30 ≤ k) : ipv6_check.f k 0 0 h n v s1 s2 w d1 d2 [] false 0 0 false p = some (if ok6 h n v w then 0 else 4) := by
  obtain ⟨q, rfl⟩ : ∃ q, k = q + 5 := ⟨k - 5, by omega⟩
  have no0 : ∀ k, ipv6_check.j0 (k + 1) true 0 0 h n v s1 s2 w d1 d2 [] false 0 0 false p = some 4 := fun k => by rw [ipv6_check.j0, if_pos rfl]
  have no1 : ∀ k, ipv6_check.j1 (k + 1) true 0 0 h n v s1 s2 w d1 d2 [] false 0 0 false p = some 4 := fun k => by rw [ipv6_check.j1, if_pos rfl]
  have yes1 : ∀ k, ipv6_check.j1 (k + 4) false 0 0 h n v s1 s2 w d1 d2 [] false 0 0 false p = some 0 := fun k => by
    rw [ipv6_check.j1, if_neg (by decide), if_neg (by decide), ipv6_check.j2, if_neg (by decide), if_neg (by decide), if_pos rfl, if_pos rfl, ipv6_check.j3, if_neg (by decide), if_neg (by decide), ipv6_check.l0, if_neg (by decide)]
  unfold ipv6_check.f
  rw [within3 _ _ _ _ _ (by omega), within1 _ _ _ (by omega)]
  simp only [bs, decide_eq_true_eq]
  by_cases hr : (0 ≤ h ∧ h ≤ 255) ∧ (0 ≤ n ∧ n ≤ 255)
  · rw [if_pos ⟨by omega, hr.1, hr.2⟩, show (!decide ((0 : Int) ≤ 0 ∧ (0 : Int) ≤ 1048575)) = false by decide, ipv6_check.j0, if_neg (by decide), ext_is]
    simp only [bs, decide_eq_true_eq]
    by_cases he : isExt n
    · rw [if_pos he, no1, if_neg (fun z => z.2.2.1 he)]
    · rw [if_neg he]
      by_cases h4 : n = 44
      · rw [if_pos h4, no1, if_neg (fun z => z.2.2.2.1 h4)]
      · rw [if_neg h4]
        cases v with
        | false => rw [if_neg (by decide), no1, if_neg (fun z => by have := z.2.2.2.2.1; cases this)]
        | true =>
          rw [if_pos rfl]
          cases w with
          | false => rw [Bool.not_false, no1, if_neg (fun z => by have := z.2.2.2.2.2; cases this)]
          | true => rw [Bool.not_true, yes1, if_pos ⟨hr.1, hr.2, he, h4, rfl, rfl⟩]
  · rw [if_neg (fun z => hr z.2), no0, if_neg (fun z => hr ⟨z.1, z.2.1⟩)]
theorem encode6 (hp : p.size ≤ 4611686018427387904) (k : Nat) (hk : 100 ≤ k) :
    ipv6_Encode.f k 0 0 h n v s1 s2 w d1 d2 [] false 0 0 false p = some (enc6Of h n v s1 s2 w d1 d2 p) := by
  obtain ⟨q, rfl⟩ : ∃ q, k = q + 5 := ⟨k - 5, by omega⟩
  unfold ipv6_Encode.f enc6Of
  rw [check6 h n v s1 s2 w d1 d2 p _ (by omega)]
  simp only [bs]
  by_cases ho : ok6 h n v w
  · rw [if_pos ho, if_pos ho, if_pos rfl, ipv6_Encode.l0, if_neg (by decide), if_neg (by decide), ipv6_Encode.j1, if_pos (by decide), ipv6_Encode.l1, if_neg (by decide), if_neg (by decide), ipv6_Encode.j3, app_nil, List.nil_append,
      if_pos (by rw [show (⟨#[]⟩ : ByteArray).size = 0 from rfl]; omega)]
    by_cases hs : (p.size : Int) > 65535
    · rw [if_pos hs, if_pos hs]
    · have a1 := adrB_len v s1 s2
      have a2 := adrB_len w d1 d2
      have a1' : (adrB v s1 s2).length ≤ 16 := by rw [a1]; split <;> omega
      have a2' : (adrB w d1 d2).length ≤ 16 := by rw [a2]; split <;> omega
      have b4 : putOf (1610612736 : Int) 4 = strOfNums (beN 4 1610612736) := put_ok 1610612736 4 (by omega) (by omega) (by omega) (by omega)
      have b2 := put_ok (p.size : Int) 2 (by omega) (by omega) (by omega) (by omega)
      rw [show ((2 : Nat) : Int) = 2 from rfl] at b2
      rw [if_neg hs, if_neg hs, if_pos (show (0 : Int) < (([n] : List Int).length : Int) by simp), show Go.bits .or .i64 (Go.bits .or .i64 1610612736 (wrap64 (0 * 1048576))) 0 = 1610612736 by decide +kernel, show rd [n] 0 = n from rfl, join_is _ (by simp) _ (by simp; omega), aBytes_is _ _ _ _ (by omega), aBytes_is _ _ _ _ (by omega)]
      simp only [bs, joinOf, nil_app]
      have z : ∀ q : List Int, (strOfNums q).size = q.length := strOfNums_size
      rw [b4, b2, put1_ok _ ho.2.1.1 ho.2.1.2, put1_ok _ ho.1.1 ho.1.2, if_pos (by simp only [size_append, z, beN_length, List.length_cons, List.length_nil]; omega), if_pos (by simp only [size_append, z, beN_length, List.length_cons, List.length_nil]; omega), if_pos (by simp only [size_append, z, beN_length, List.length_cons, List.length_nil]; omega)]
      unfold h6
      simp only [strOfNums_append, str_bytes, app_assoc]
  · rw [if_neg ho, if_neg ho, if_neg (by decide)]
end
end Go.Proofs.YtocobalkikkhlaaDoor.Pure

/-! ### Ip6P -/
set_option linter.unusedVariables false
set_option linter.unusedSimpArgs false
namespace Go.Proofs.YtocobalkikkhlaaDoor.Pure
open Go.RowKit Go.Proofs.YtocobalkikkhlaaDoor.X Go.Proofs.YtocobalkikkhlaaDoorW.PrintWords Go.Proofs.YtocobalkikkhlaaDoorW.PrintLast Go.Proofs.YtocobalkikkhlaaDoorW.PrintMore

theorem rext_is (n : Int) : intrusionref12_extension.f n = some (decide (isExt n)) := by
  unfold intrusionref12_extension.f isExt
  by_cases h0 : n = 0
  · rw [if_pos h0]; simp [h0]
  · rw [if_neg h0]
    by_cases h1 : n = 43
    · rw [if_pos h1]; simp [h1]
    · rw [if_neg h1]
      by_cases h2 : n = 60
      · simp [h2]
      · simp [h0, h1, h2]
theorem rput12_loop (n : Int) : ∀ (m k : Nat) (x : List Int), m ≤ 8 → x.length ≤ 8 - m →
    intrusionref12_put.l0 (k + m + 1) n x ((m : Int) - 1) = some (strOfNums (x ++ beN m n))
  | 0, k, x, h, hx => by
    unfold intrusionref12_put.l0
    rw [if_neg (by omega)]
    simp [beN]
  | m + 1, k, x, h, hx => by
    rw [show k + (m + 1) + 1 = (k + m + 1) + 1 by omega]
    unfold intrusionref12_put.l0
    rw [show ((m + 1 : Nat) : Int) - 1 = (m : Int) by omega, w64 (n := 8 * (m : Int)) (by omega) (by omega), wu64 (n := 8 * (m : Int)) (by omega) (by omega), w64 (n := (m : Int) - 1) (by omega) (by omega),
      if_pos (by omega), if_pos (by omega), if_pos (by omega), shr64 n m (by omega), rput12_loop n m k _ (by omega) (by simp; omega)]
    simp [beN]
theorem rput12 (n : Int) (z : Nat) (hz : z ≤ 8) (k : Nat) (hk : 10 ≤ k) : intrusionref12_put.f k n z = some (strOfNums (beN z n)) := by
  have h := rput12_loop n z (k - z - 1) [] hz (by simp)
  rw [show k - z - 1 + z + 1 = k by omega] at h
  unfold intrusionref12_put.f
  rw [w64 (n := (z : Int) - 1) (by omega) (by omega), h]
  simp
theorem rput12_1 (n : Int) (h0 : 0 ≤ n) (h1 : n ≤ 255) (k : Nat) (hk : 10 ≤ k) : intrusionref12_put.f k n 1 = some (strOfNums [n]) := by
  have h := rput12 n 1 (by omega) k hk
  rw [show ((1 : Nat) : Int) = 1 from rfl] at h
  rw [h]
  simp [beN]
  congr 1
  congr 1
  omega
section
variable (h n : Int) (v : Bool) (s1 s2 : Int) (w : Bool) (d1 d2 : Int) (p : ByteArray)
theorem ranges6 (k : Nat) : intrusionref12_ranges.f (k + 1) 0 0 h n v s1 s2 w d1 d2 [] false 0 0 false p = some (decide (ok6 h n v w)) := by
  have no0 : intrusionref12_ranges.j0 (k + 1) true 0 0 h n v s1 s2 w d1 d2 [] false 0 0 false p = some false := by rw [intrusionref12_ranges.j0, if_pos rfl]
  have yes0 : intrusionref12_ranges.j0 (k + 1) false 0 0 h n v s1 s2 w d1 d2 [] false 0 0 false p = some true := by
    rw [intrusionref12_ranges.j0, if_neg (by decide), if_neg (by decide), if_pos rfl, if_pos rfl]
    rfl
  unfold intrusionref12_ranges.f
  rw [if_neg (by decide), if_neg (by decide)]
  by_cases h1 : h < 0
  · rw [if_pos h1, no0, decide_eq_false (fun z => by have := z.1; omega)]
  rw [if_neg h1]
  by_cases h2 : h > 255
  · rw [if_pos h2, no0, decide_eq_false (fun z => by have := z.1; omega)]
  rw [if_neg h2, if_neg (by decide), if_neg (by decide)]
  by_cases h3 : n < 0
  · rw [if_pos h3, no0, decide_eq_false (fun z => by have := z.2.1; omega)]
  rw [if_neg h3]
  by_cases h4 : n > 255
  · rw [if_pos h4, no0, decide_eq_false (fun z => by have := z.2.1; omega)]
  rw [if_neg h4, rext_is]
  simp only [bs, decide_eq_true_eq]
  by_cases he : isExt n
  · rw [if_pos he, no0, decide_eq_false (fun z => z.2.2.1 he)]
  rw [if_neg he]
  by_cases h5 : n = 44
  · rw [if_pos h5, no0, decide_eq_false (fun z => z.2.2.2.1 h5)]
  rw [if_neg h5]
  cases v with
  | false => rw [if_neg (by decide), no0, decide_eq_false (fun z => by have := z.2.2.2.2.1; cases this)]
  | true =>
    rw [if_pos rfl]
    cases w with
    | false => rw [Bool.not_false, no0, decide_eq_false (fun z => by have := z.2.2.2.2.2; cases this)]
    | true => rw [Bool.not_true, yes0, decide_eq_true ⟨by omega, by omega, he, h5, rfl, rfl⟩]
theorem rencode6 (hp : p.size ≤ 4611686018427387904) (k : Nat) (hk : 100 ≤ k) :
    intrusionref12_Encode.f k 0 0 h n v s1 s2 w d1 d2 [] false 0 0 false p = some (enc6Of h n v s1 s2 w d1 d2 p) := by
  obtain ⟨q, rfl⟩ : ∃ q, k = q + 3 := ⟨k - 3, by omega⟩
  unfold intrusionref12_Encode.f enc6Of
  rw [ranges6]
  simp only [bs, decide_eq_true_eq]
  by_cases ho : ok6 h n v w
  · rw [if_pos ho, if_pos ho, if_neg (by decide), intrusionref12_Encode.l0, if_neg (by decide)]
    by_cases hs : (p.size : Int) > 65535
    · rw [if_pos hs, if_pos hs]
    · have a1 := adrB_len v s1 s2
      have a2 := adrB_len w d1 d2
      have a1' : (adrB v s1 s2).length ≤ 16 := by rw [a1]; split <;> omega
      have a2' : (adrB w d1 d2).length ≤ 16 := by rw [a2]; split <;> omega
      have b4 : ∀ k, 10 ≤ k → intrusionref12_put.f k 1610612736 4 = some (strOfNums (beN 4 1610612736)) := fun k hk => rput12 1610612736 4 (by omega) k hk
      have b2 : ∀ k, 10 ≤ k → intrusionref12_put.f k (p.size : Int) 2 = some (strOfNums (beN 2 p.size)) := fun k hk => rput12 p.size 2 (by omega) k hk
      have z : ∀ q : List Int, (strOfNums q).size = q.length := strOfNums_size
      rw [if_neg hs, if_neg hs, if_neg (by decide), intrusionref12_Encode.j2, show wrap64 ((([] : List S91).length : Int) - 1) = -1 by decide +kernel, intrusionref12_Encode.l1, if_neg (by decide), if_neg hs, show Go.bits .or .i64 (Go.bits .or .i64 1610612736 (wrap64 (0 * 1048576))) 0 = 1610612736 by decide +kernel, b4 _ (by omega), b2 _ (by omega)]
      simp only [bs]
      rw [if_pos (by simp only [size_append, z, beN_length, List.length_cons, List.length_nil]; omega), rput12_1 _ ho.2.1.1 ho.2.1.2 _ (by omega)]
      simp only [bs]
      rw [if_pos (by simp only [size_append, z, beN_length, List.length_cons, List.length_nil]; omega), rput12_1 _ ho.1.1 ho.1.2 _ (by omega)]
      simp only [bs]
      rw [if_pos (by simp only [size_append, z, beN_length, List.length_cons, List.length_nil]; omega), rBytes_is _ _ _ _ (by omega)]
      simp only [bs]
      rw [if_pos (by simp only [size_append, z, beN_length, List.length_cons, List.length_nil]; omega), rBytes_is _ _ _ _ (by omega)]
      simp only [bs]
      rw [if_pos (by simp only [size_append, z, beN_length, List.length_cons, List.length_nil]; omega), if_pos (by simp only [size_append, z, beN_length, List.length_cons, List.length_nil]; omega)]
      unfold h6
      simp only [strOfNums_append, str_bytes, app_assoc]
  · rw [if_neg ho, if_neg ho]
end
end Go.Proofs.YtocobalkikkhlaaDoor.Pure

/-! ### PureTunnelGre -/
set_option linter.unusedVariables false
set_option linter.unusedSimpArgs false
namespace Go.Proofs.YtocobalkikkhlaaDoor.Pure
open Go.RowKit Go.Proofs.YtocobalkikkhlaaDoor.X Go.Proofs.YtocobalkikkhlaaDoorW.PrintWords Go.Proofs.YtocobalkikkhlaaDoorW.PrintLast Go.Proofs.YtocobalkikkhlaaDoorW.PrintMore

section
variable (v : Bool) (s1 s2 : Int) (w : Bool) (d1 d2 : Int) (pr tt : Int) (p : ByteArray) (id : Int)
/-- What Packet answers. -/
def pkOf : ByteArray × Int := if v = true then enc6Of tt pr v s1 s2 w d1 d2 p else enc0Of 0 id tt pr 0 v s1 s2 w d1 d2 p
theorem packet_is (hp : p.size ≤ 65000) (k : Nat) (hk : 66000 ≤ k) : tunnel_Packet.f k v s1 s2 w d1 d2 pr tt p id = some (pkOf v s1 s2 w d1 d2 pr tt p id) := by
  unfold tunnel_Packet.f pkOf
  by_cases h : v = true
  · rw [if_pos h, if_pos h, encode6 tt pr v s1 s2 w d1 d2 p (by omega) k (by omega)]
    simp only [bs]
  · rw [if_neg h, if_neg h, encode4_nil 0 id tt pr 0 v s1 s2 w d1 d2 p (by omega) k (by omega)]
    simp only [bs]
theorem rpacket_is (hp : p.size ≤ 65000) (k : Nat) (hk : 66000 ≤ k) : intrusionref17_Packet.f k v s1 s2 w d1 d2 pr tt p id = some (pkOf v s1 s2 w d1 d2 pr tt p id) := by
  unfold intrusionref17_Packet.f pkOf
  by_cases h : v = true
  · rw [if_pos h, if_pos h, rencode6 tt pr v s1 s2 w d1 d2 p (by omega) k (by omega)]
    simp only [bs]
  · rw [if_neg h, if_neg h, rencode4_nil 0 id tt pr 0 v s1 s2 w d1 d2 p (by omega) k (by omega)]
    simp only [bs]
end
theorem wg_size (v6 : Bool) (hi lo : Int) (w6 : Bool) (hj lp kind : Int) (s : ByteArray) (key : Int) (sum : Bool) : (wgOf v6 hi lo w6 hj lp kind s key sum).2.2.2.2.2.2.2.2.1.size ≤ 65000 := by
  unfold wgOf
  split
  · split
    · exact Nat.zero_le _
    · unfold madeOf
      split
      · exact Nat.zero_le _
      · show (greP kind s key sum).size ≤ 65000
        omega
  · exact Nat.zero_le _
theorem TunnelGre : intrusionlaw17_TunnelGre.Pure := by
  intro v s1 s2 w d1 d2 n s _ _ _ _ hn hs
  have hn' := wf_i64 hn
  obtain ⟨K, hK⟩ : ∃ K, s.size + 100000 = K := ⟨_, rfl⟩
  refine ⟨K, ?_⟩
  unfold intrusionlaw17_TunnelGre.f intrusionlaw17_long.f
  rw [awake17_is K (by omega)]
  simp only [bs]
  by_cases h : (s.size : Int) > 70000
  · rw [if_pos (by simp [h])]
  · rw [if_neg (by simp [h]), wrapGre_is v s1 s2 w d1 d2 (Int.tmod n 8) s (by omega) (n % 4294967296) (by omega) (by omega) _ K (by omega), rwrapGre_is v s1 s2 w d1 d2 (Int.tmod n 8) s (by omega) (n % 4294967296) (by omega) (by omega) _ K (by omega)]
    simp only [bs]
    have hz := wg_size v s1 s2 w d1 d2 (Int.tmod n 8) s (n % 4294967296) (Int.tmod n 2 == 0)
    generalize wgOf v s1 s2 w d1 d2 (Int.tmod n 8) s (n % 4294967296) (Int.tmod n 2 == 0) = d at hz
    rw [packet_is _ _ _ _ _ _ _ _ _ _ hz K (by omega), rpacket_is _ _ _ _ _ _ _ _ _ _ hz K (by omega)]
    simp only [bs, beq_self_eq_true, Bool.and_self, if_true]
end Go.Proofs.YtocobalkikkhlaaDoor.Pure
