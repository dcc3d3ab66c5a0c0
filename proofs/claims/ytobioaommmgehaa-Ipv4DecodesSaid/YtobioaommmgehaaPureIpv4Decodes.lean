/- Ipv4Decodes as a plain law: Decode of any bytes (at most 70000) is the document's, and the examples hold. -/
import Derived.Test.YtobioaommmgehaaXDIpv4Decodes
import Derived.Test.YtobioaommmgehaaX0
import Derived.Laws.Bits128
import Derived.Laws.BitsAllLaws
import Derived.Lib.EndianBits
import Derived.Test.YtobioaommmgehaaX7
import Derived.Test.YtobioaommmgehaaX13
import Derived.Test.YtobioaommmgehaaX12
import Derived.Test.YtobioaommmgehaaX5
import Derived.Test.YtobioaommmgehaaX8
import Derived.Test.YtobioaommmgehaaX9
import Derived.Test.YtobioaommmgehaaX10
import Derived.Test.YtobioaommmgehaaX14
import Derived.Test.YtobioaommmgehaaX20
import Derived.Test.YtobioaommmgehaaX21
import Derived.Test.YtobioaommmgehaaX19
import Derived.Lib.QuoteBits
import Derived.Test.YtobioaommmgehaaX6
import Derived.Test.YtobioaommmgehaaX15
import Derived.Test.YtobioaommmgehaaX16
import Derived.Test.YtobioaommmgehaaX17
/-! ### Base -/
namespace Go.Proofs.Ytobioaommmgehaa.Pure
open Go.RowKit Go.Proofs.Ytobioaommmgehaa.X Go.Proofs.YtobioaommmgehaaW.PrintWords Go.Proofs.YtobioaommmgehaaW.PrintLast Go.Proofs.YtobioaommmgehaaW.PrintMore

/-- Told without 'rfl': a simp by it leaves the kernel little to compare. -/
theorem bs {α β : Type} (a : α) (f : α → Option β) : (some a).bind f = f a := by
  cases h : (some a) with
  | none => cases h
  | some b => injection h with h; subst h; rfl
theorem w64 {n : Int} (h : -9223372036854775808 ≤ n) (h' : n < 9223372036854775808) : wrap64 n = n := by unfold wrap64; omega
theorem and16 (n : Int) : Go.bits .and .i64 n 65535 = n % 65536 := by
  have h127 : (BitVec.ofInt 64 65535).toNat = 2 ^ 16 - 1 := by decide
  have key : (BitVec.ofInt 64 n &&& BitVec.ofInt 64 65535).toNat = (n % ((2 ^ 64 : Nat) : Int)).toNat % 2 ^ 16 := by
    rw [BitVec.toNat_and, BitVec.toNat_ofInt, h127, Nat.and_two_pow_sub_one_eq_mod]
  show IntKind.i64.wrap ((BitVec.ofInt 64 n &&& BitVec.ofInt 64 65535).toNat : Nat) = n % 65536
  rw [key, IntKind.wrap_i64]
  omega
theorem wraps_i64' (n : Int) (h₀ : 0 ≤ n) (h₁ : n < 2 ^ 63) : IntKind.i64.wrap n = n := by rw [IntKind.wrap_i64]; omega
/-- 'x*256 | b' on int. -/
theorem or8 (x b : Int) (h0 : 0 ≤ x) (h1 : x < 9223372036854775808) (hx : x % 256 = 0) (hb0 : 0 ≤ b) (hb : b < 256) : Go.bits .or .i64 x b = x + b :=
  bits_join .i64 63 (by decide) wraps_i64' 8 x b h0 (by omega) (by omega) hb0 (by omega) (by omega)
theorem bytesOf_extract (s : ByteArray) (i j : Nat) : bytesOf (s.extract i j) = ((bytesOf s).drop i).take (j - i) := by
  simp [bytesOf, ByteArray.data_extract, List.map_take, List.map_drop]
  try rw [List.extract_eq_take_drop]
theorem bytesOf_range (s : ByteArray) : ∀ x ∈ bytesOf s, 0 ≤ x ∧ x < 256 := by
  intro x hx
  obtain ⟨b, _, rfl⟩ := List.mem_map.mp hx
  have := b.toNat_lt
  omega
theorem bytesOf_inj {a b : ByteArray} (h : bytesOf a = bytesOf b) : a = b := by
  have h2 : a.data.toList = b.data.toList := by
    refine List.map_inj_right (f := fun (b : UInt8) => (b.toNat : Int)) ?_ |>.mp h
    intro x y hxy
    exact UInt8.toNat_inj.mp (by exact_mod_cast hxy)
  cases a; cases b
  simp at h2
  simp [h2]
theorem bytesOf_strOfNums (l : List Int) (h : ∀ x ∈ l, 0 ≤ x ∧ x < 256) : bytesOf (strOfNums l) = l := by
  induction l with
  | nil => rfl
  | cons x l ih =>
    have h1 := h x (by simp)
    have h2 := ih (fun y hy => h y (by simp [hy]))
    simp only [bytesOf, strOfNums_data, List.map_map, List.map_cons] at h2 ⊢
    refine List.cons_eq_cons.mpr ⟨?_, h2⟩
    simp only [UInt8.toNat_ofNat']
    omega
theorem bt_eq (s : ByteArray) (i : Nat) : bt s (i : Int) = (bytesOf s).getD i 0 := by
  unfold bt bytesOf
  rw [Int.toNat_natCast]
  by_cases h : i < s.size
  · have h' : i < s.data.toList.length := by rw [Array.length_toList]; exact h
    rw [dif_pos h]
    simp [List.getD_eq_getElem?_getD, List.getElem?_eq_getElem h']
    rfl
  · have h' : s.data.toList.length ≤ i := by rw [Array.length_toList]; exact Nat.not_lt.1 h
    rw [dif_neg h]
    simp [List.getD_eq_getElem?_getD, List.getElem?_eq_none h']
theorem bt_range (s : ByteArray) (i : Int) : 0 ≤ bt s i ∧ bt s i ≤ 255 := by
  unfold bt
  split
  · rename_i h
    have := (s[i.toNat]'h).toNat_lt
    omega
  · omega
end Go.Proofs.Ytobioaommmgehaa.Pure


/-! ### Ip4S -/
set_option linter.unusedVariables false
set_option linter.unusedSimpArgs false
namespace Go.Proofs.Ytobioaommmgehaa.Pure
open Go.RowKit Go.Proofs.Ytobioaommmgehaa.X Go.Proofs.YtobioaommmgehaaW.PrintWords Go.Proofs.YtobioaommmgehaaW.PrintLast Go.Proofs.YtobioaommmgehaaW.PrintMore

theorem awake300 : intrusionlaw11_awake.f 300 = some true := by decide +kernel
theorem awake11_is (k : Nat) (hk : 300 ≤ k) : intrusionlaw11_awake.f k = some true := at_rounds intrusionlaw11_awake.mono hk awake300
section
variable (c id tt pr : Int) (dn mr : Bool) (off : Int) (v : Bool) (s1 s2 : Int) (w : Bool) (d1 d2 : Int) (l : List S50) (p : ByteArray)
theorem sameO_loop (hl : l.length ≤ 4611686018427387904) : ∀ (m i k : Nat), i + m = l.length → intrusionlaw11_sameOptions.l0 (k + m + 1) l l l.length (i : Int) = some true
  | 0, i, k, h => by rw [intrusionlaw11_sameOptions.l0, if_neg (by omega)]
  | m + 1, i, k, h => by
    rw [show k + (m + 1) + 1 = (k + m + 1) + 1 by omega, intrusionlaw11_sameOptions.l0, if_pos (by omega), if_pos (by omega), if_pos (by omega), if_pos (by omega), if_neg (by simp), w64 (n := (i : Int) + 1) (by omega) (by omega), show (i : Int) + 1 = ((i + 1 : Nat) : Int) by omega, sameO_loop hl m (i + 1) k (by omega)]
theorem same4_self (hl : l.length ≤ 4611686018427387904) (k : Nat) (hk : l.length + 1 ≤ k) : intrusionlaw11_same.f k c id tt pr dn mr off v s1 s2 w d1 d2 l p c id tt pr dn mr off v s1 s2 w d1 d2 l p = some true := by
  have h := sameO_loop l hl l.length 0 (k - l.length - 1) (by omega)
  rw [show k - l.length - 1 + l.length + 1 = k by omega] at h
  unfold intrusionlaw11_same.f intrusionlaw11_sameOptions.f
  rw [show ((0 : Nat) : Int) = 0 from rfl] at h
  simp only [if_true, beq_self_eq_true, Bool.and_self, h, bs]
end
end Go.Proofs.Ytobioaommmgehaa.Pure


/-! ### SumA -/
namespace Go.Proofs.Ytobioaommmgehaa.Pure
open Go.RowKit Go.Proofs.Ytobioaommmgehaa.X Go.Proofs.YtobioaommmgehaaW.PrintWords Go.Proofs.YtobioaommmgehaaW.PrintLast Go.Proofs.YtobioaommmgehaaW.PrintMore

/-- The total of the 16-bit words of a list of bytes. -/
def tot : List Int → Int
  | [] => 0
  | [a] => a * 256
  | a :: b :: r => a * 256 + b + tot r
/-- The one's complement residue, 1 to 65535, or 0 for 0. -/
def canon (t : Int) : Int := if t = 0 then 0 else (t - 1) % 65535 + 1
theorem canon_range {t : Int} (_h : 0 ≤ t) : 0 ≤ canon t ∧ canon t ≤ 65535 := by
  unfold canon; split <;> omega
theorem canon_step {t w : Int} (ht : 0 ≤ t) (h0 : 0 ≤ w) (h1 : w ≤ 65535) : (if canon t + w > 65535 then canon t + w - 65535 else canon t + w) = canon (t + w) := by
  unfold canon; split <;> split <;> split <;> omega
theorem fold_some (x : Int) (h0 : 0 ≤ x) (h1 : x ≤ 131070) : checksum_fold.f x = some (if x > 65535 then x - 65535 else x) := by
  unfold checksum_fold.f
  split
  · rw [w64 (by omega) (by omega)]
  · rfl
theorem drop_two (l : List Int) (i : Nat) (h : i + 1 < l.length) : l.drop i = l.getD i 0 :: l.getD (i + 1) 0 :: l.drop (i + 2) := by
  rw [List.drop_eq_getElem_cons (by omega), List.drop_eq_getElem_cons (by omega)]
  simp [List.getD_eq_getElem?_getD, List.getElem?_eq_getElem (show i < l.length by omega), List.getElem?_eq_getElem h]
theorem drop_one (l : List Int) (i : Nat) (h : i + 1 = l.length) : l.drop i = [l.getD i 0] := by
  rw [List.drop_eq_getElem_cons (by omega), List.drop_of_length_le (by omega)]
  simp [List.getD_eq_getElem?_getD, List.getElem?_eq_getElem (show i < l.length by omega)]
theorem sum_loop (s : ByteArray) (hs : s.size ≤ 4611686018427387904) : ∀ (k i : Nat) (t : Int), 0 ≤ t → s.size + 2 < 2 * k + i → i ≤ s.size + 1 →
    checksum_Sum.l0 k s (canon t) i = some (65535 - canon (t + tot ((bytesOf s).drop i)))
  | 0, i, t, _, h, h2 => by omega
  | k + 1, i, t, ht, h, h2 => by
    have hlen := bytesOf_length s
    have hr := canon_range ht
    unfold checksum_Sum.l0
    by_cases h1 : (i : Int) < (s.size : Int)
    · rw [if_pos h1, if_pos (by omega), w64 (n := (i : Int) + 1) (by omega) (by omega)]
      have hb := bt_range s i
      have hb2 := bt_range s ((i : Int) + 1)
      have hm : wrap64 (wrap64 (bt s i) * 256) = bt s i * 256 := by rw [w64 (n := bt s i) (by omega) (by omega), w64 (by omega) (by omega)]
      try rw [hm]
      rw [w64 (n := (i : Int) + 2) (by omega) (by omega), show ((i : Int) + 2) = ((i + 2 : Nat) : Int) by omega]
      by_cases h3 : (i : Int) + 1 < (s.size : Int)
      · rw [if_pos h3, if_pos (by omega)]
        try rw [w64 (n := bt s ((i : Int) + 1)) (by omega) (by omega)]
        rw [or8 _ _ (by omega) (by omega) (by omega) (by omega) (by omega),
          w64 (by omega) (by omega), fold_some _ (by omega) (by omega), Option.bind_some, canon_step ht (by omega) (by omega),
          sum_loop s hs k (i + 2) _ (by omega) (by omega) (by omega), drop_two _ i (by omega), tot]
        rw [show ((i : Int) + 1) = ((i + 1 : Nat) : Int) by omega, bt_eq, bt_eq, Int.add_assoc]
      · rw [if_neg h3, w64 (by omega) (by omega), fold_some _ (by omega) (by omega), Option.bind_some, canon_step ht (by omega) (by omega),
          sum_loop s hs k (i + 2) _ (by omega) (by omega) (by omega), drop_one _ i (by omega), tot, List.drop_of_length_le (by omega), tot, bt_eq, Int.add_zero]
    · rw [if_neg h1, List.drop_of_length_le (by omega), tot, Int.add_zero, w64 (by omega) (by omega)]
/-- Sum in closed form. -/
def sumOf (s : ByteArray) : Int := 65535 - canon (tot (bytesOf s))
theorem sum_is (s : ByteArray) (hs : s.size ≤ 4611686018427387904) (k : Nat) (hk : s.size + 2 < k) : checksum_Sum.f k s = some (sumOf s) := by
  have := sum_loop s hs k 0 0 (by omega) (by omega) (by omega)
  unfold checksum_Sum.f sumOf
  simpa [canon] using this
/-- Add in closed form. -/
def addOf (a b : Int) : Int := if a % 65536 + b % 65536 > 65535 then a % 65536 + b % 65536 - 65535 else a % 65536 + b % 65536
end Go.Proofs.Ytobioaommmgehaa.Pure


/-! ### Field -/
namespace Go.Proofs.Ytobioaommmgehaa.Pure
open Go.RowKit Go.Proofs.Ytobioaommmgehaa.X Go.Proofs.YtobioaommmgehaaW.PrintWords Go.Proofs.YtobioaommmgehaaW.PrintLast Go.Proofs.YtobioaommmgehaaW.PrintMore

/-- The last digits of a number to the base 256, the most significant first. -/
def beN : Nat → Int → List Int
  | 0, _ => []
  | i + 1, n => n / 256 ^ i % 256 :: beN i n
/-- The number of digits, the most significant first. -/
def valBE (l : List Int) : Int := l.foldl (fun n c => n * 256 + c) 0
theorem val_from : ∀ (l : List Int) (n : Int), l.foldl (fun n c => n * 256 + c) n = n * 256 ^ l.length + valBE l
  | [], n => by simp [valBE]
  | c :: l, n => by
    have h1 := val_from l (n * 256 + c)
    have h2 := val_from l (0 * 256 + c)
    unfold valBE
    simp only [List.foldl_cons, List.length_cons] at h1 h2 ⊢
    rw [h1, h2, Int.pow_succ]
    generalize (256 : Int) ^ l.length = p
    generalize valBE l = v
    rw [Int.add_mul, Int.zero_mul, Int.zero_add, Int.mul_comm p 256, ← Int.mul_assoc, Int.add_assoc]
theorem valBE_cons (c : Int) (l : List Int) : valBE (c :: l) = c * 256 ^ l.length + valBE l := by
  have h := val_from l (0 * 256 + c)
  unfold valBE
  simp only [List.foldl_cons]
  rw [h, Int.zero_mul, Int.zero_add]
  rfl
theorem valBE_range : ∀ l : List Int, (∀ x ∈ l, 0 ≤ x ∧ x < 256) → 0 ≤ valBE l ∧ valBE l < 256 ^ l.length
  | [], _ => by simp [valBE]
  | c :: l, h => by
    have h1 := valBE_range l (fun x hx => h x (by simp [hx]))
    have h2 := h c (by simp)
    have hp : (0 : Int) < 256 ^ l.length := Int.pow_pos (by decide)
    rw [valBE_cons, List.length_cons, Int.pow_succ]
    generalize (256 : Int) ^ l.length = p at *
    constructor
    · exact Int.add_nonneg (Int.mul_nonneg h2.1 (by omega)) h1.1
    · have : c * p ≤ 255 * p := Int.mul_le_mul_of_nonneg_right (by omega) (by omega)
      omega
/-- Put in closed form. -/
def putOf (n size : Int) : ByteArray := if 1 ≤ size ∧ size ≤ 7 ∧ 0 ≤ n ∧ n < 256 ^ size.toNat then strOfNums (beN size.toNat n) else ⟨#[]⟩
theorem number_loop (l : List Int) (hl : ∀ x ∈ l, 0 ≤ x ∧ x < 256) (h7 : l.length ≤ 7) : ∀ (m i k : Nat), i + m = l.length →
    field_number.l0 (k + m + 1) (valBE (l.take i)) l l.length i = some (valBE l)
  | 0, i, k, h => by
    unfold field_number.l0
    rw [if_neg (by omega), List.take_of_length_le (by omega)]
  | m + 1, i, k, h => by
    rw [show k + (m + 1) + 1 = (k + m + 1) + 1 by omega]
    have hlt : i < l.length := by omega
    have ht : l.take (i + 1) = l.take i ++ [l[i]] := by rw [List.take_add_one]; simp [hlt]
    have e : valBE (l.take (i + 1)) = valBE (l.take i) * 256 + l[i] := by
      rw [ht]; unfold valBE; rw [List.foldl_append]; rfl
    have hr := valBE_range (l.take i) (fun x hx => hl x (List.mem_of_mem_take hx))
    have hc := hl l[i] (List.getElem_mem hlt)
    have hpow : (256 : Int) ^ (l.take i).length ≤ 281474976710656 := by
      have h6 : (l.take i).length ≤ 6 := by simp; omega
      have hn : 256 ^ (l.take i).length ≤ 281474976710656 := Nat.le_trans (Nat.pow_le_pow_right (by decide) h6) (by decide)
      have hc : ((256 ^ (l.take i).length : Nat) : Int) = (256 : Int) ^ (l.take i).length := Int.natCast_pow 256 _
      omega
    have hrd : rd l i = l[i] := by unfold rd; rw [Int.toNat_natCast, List.getD_eq_getElem?_getD, List.getElem?_eq_getElem hlt]; rfl
    unfold field_number.l0
    rw [if_pos (by omega), if_pos (by omega), if_pos (by omega), hrd, w64 (n := l[i]) (by omega) (by omega), w64 (n := valBE (l.take i) * 256) (by omega) (by omega), or8 _ _ (by omega) (by omega) (by omega) (by omega) (by omega), w64 (n := (i : Int) + 1) (by omega) (by omega), ← e,
      show (i : Int) + 1 = ((i + 1 : Nat) : Int) by omega]
    exact number_loop l hl h7 m (i + 1) k (by omega)
theorem number_is (l : List Int) (hl : ∀ x ∈ l, 0 ≤ x ∧ x < 256) (h7 : l.length ≤ 7) (k : Nat) (hk : 8 ≤ k) : field_number.f k l = some (valBE l) := by
  have h := number_loop l hl h7 l.length 0 (k - l.length - 1) (by omega)
  rw [show k - l.length - 1 + l.length + 1 = k by omega] at h
  unfold field_number.f
  simpa [valBE] using h
end Go.Proofs.Ytobioaommmgehaa.Pure


/-! ### Ip06 -/
namespace Go.Proofs.Ytobioaommmgehaa.Pure
open Go.RowKit Go.Proofs.Ytobioaommmgehaa.X Go.Proofs.YtobioaommmgehaaW.PrintWords Go.Proofs.YtobioaommmgehaaW.PrintLast Go.Proofs.YtobioaommmgehaaW.PrintMore

theorem wu64 {n : Int} (h : 0 ≤ n) (h' : n < 18446744073709551616) : IntKind.u64.wrap n = n := u64_wrap_id n h h'
theorem or8u (x b : Int) (h0 : 0 ≤ x) (h1 : x < 18446744073709551616) (hx : x % 256 = 0) (hb0 : 0 ≤ b) (hb : b < 256) : Go.bits .or .u64 x b = x + b :=
  bits_join .u64 64 (by decide) (fun n h h' => wu64 h (by omega)) 8 x b h0 (by omega) (by omega) hb0 (by omega) (by omega)
theorem bt_get (s : ByteArray) (i : Nat) (h : i < (bytesOf s).length) : bt s (i : Int) = (bytesOf s)[i] := by
  rw [bt_eq, List.getD_eq_getElem?_getD, List.getElem?_eq_getElem h]
  rfl
theorem valBE_snoc (l : List Int) (c : Int) : valBE (l ++ [c]) = valBE l * 256 + c := by unfold valBE; rw [List.foldl_append]; rfl
theorem pow8 (n : Nat) (h : n ≤ 7) : (256 : Int) ^ n ≤ 72057594037927936 := by
  have hn : 256 ^ n ≤ 72057594037927936 := Nat.le_trans (Nat.pow_le_pow_right (by decide) h) (by decide)
  have hc : ((256 ^ n : Nat) : Int) = (256 : Int) ^ n := Int.natCast_pow 256 _
  omega
/-- The bytes of an address. -/
def adrB (v6 : Bool) (hi lo : Int) : List Int := if v6 = true then beN 8 hi ++ beN 8 lo else beN 4 lo
/-- One byte more of a number of at most 8 bytes. -/
theorem val_step (l : List Int) (hl : ∀ x ∈ l, 0 ≤ x ∧ x < 256) (i : Nat) (h : i < l.length) (h8 : l.length ≤ 8) :
    Go.bits .or .u64 (IntKind.u64.wrap (valBE (l.take i) * 256)) l[i] = valBE (l.take (i + 1)) := by
  have ht : l.take (i + 1) = l.take i ++ [l[i]] := by rw [List.take_add_one]; simp [h]
  have hr := valBE_range (l.take i) (fun x hx => hl x (List.mem_of_mem_take hx))
  have hc := hl l[i] (List.getElem_mem h)
  have hp := pow8 (l.take i).length (by simp; omega)
  rw [ht, valBE_snoc, wu64 (by omega) (by omega), or8u _ _ (by omega) (by omega) (by omega) hc.1 hc.2]
theorem aval_loop (s : ByteArray) (h8 : s.size ≤ 8) : ∀ (m i k : Nat), i + m = s.size →
    address_value.l0 (k + m + 1) s (valBE ((bytesOf s).take i)) s.size i = some (valBE (bytesOf s))
  | 0, i, k, h => by
    have hl := bytesOf_length s
    unfold address_value.l0
    rw [if_neg (by omega), List.take_of_length_le (by omega)]
  | m + 1, i, k, h => by
    have hl := bytesOf_length s
    rw [show k + (m + 1) + 1 = (k + m + 1) + 1 by omega]
    unfold address_value.l0
    have hbr := bt_range s (i : Int)
    rw [if_pos (by omega), if_pos (by omega), if_pos (by omega)]
    try rw [wu64 (n := bt s (i : Int)) (by omega) (by omega)]
    rw [bt_get s i (by omega), val_step _ (bytesOf_range s) i (by omega) (by omega), w64 (n := (i : Int) + 1) (by omega) (by omega), show (i : Int) + 1 = ((i + 1 : Nat) : Int) by omega]
    exact aval_loop s h8 m (i + 1) k (by omega)
theorem aval_is (s : ByteArray) (h8 : s.size ≤ 8) (k : Nat) (hk : 10 ≤ k) : address_value.f k s = some (valBE (bytesOf s)) := by
  have h := aval_loop s h8 s.size 0 (k - s.size - 1) (by omega)
  rw [show k - s.size - 1 + s.size + 1 = k by omega] at h
  unfold address_value.f
  simpa [valBE] using h
theorem aFrom4 (s : ByteArray) (h : s.size = 4) (k : Nat) (hk : 10 ≤ k) : address_FromBytes.f k s = some (false, 0, valBE (bytesOf s), 0) := by
  unfold address_FromBytes.f
  rw [if_pos (by omega), aval_is s (by omega) k hk]
  simp only [bs]
end Go.Proofs.Ytobioaommmgehaa.Pure


/-! ### Ip6A -/
namespace Go.Proofs.Ytobioaommmgehaa.Pure
open Go.RowKit Go.Proofs.Ytobioaommmgehaa.X Go.Proofs.YtobioaommmgehaaW.PrintWords Go.Proofs.YtobioaommmgehaaW.PrintLast Go.Proofs.YtobioaommmgehaaW.PrintMore

theorem str_bytes (s : ByteArray) : strOfNums (bytesOf s) = s := bytesOf_inj (bytesOf_strOfNums _ (bytesOf_range s))
end Go.Proofs.Ytobioaommmgehaa.Pure


/-! ### RSum02 -/
namespace Go.Proofs.Ytobioaommmgehaa.Pure
open Go.RowKit Go.Proofs.Ytobioaommmgehaa.X Go.Proofs.YtobioaommmgehaaW.PrintWords Go.Proofs.YtobioaommmgehaaW.PrintLast Go.Proofs.YtobioaommmgehaaW.PrintMore

theorem radd_is (a b : Int) : intrusionref02_Add.f a b = some (addOf a b) := by
  unfold intrusionref02_Add.f addOf
  rw [and16, and16, w64 (n := a % 65536 + b % 65536) (by omega) (by omega)]
  split
  · rw [w64 (by omega) (by omega)]
  · rfl
theorem radd_step {t w : Int} (ht : 0 ≤ t) (h0 : 0 ≤ w) (h1 : w ≤ 65535) : intrusionref02_Add.f (canon t) w = some (canon (t + w)) := by
  have hr := canon_range ht
  rw [radd_is, ← canon_step ht h0 h1, addOf, show canon t % 65536 = canon t by omega, show w % 65536 = w by omega]
theorem rsum_loop (s : ByteArray) (hs : s.size ≤ 4611686018427387904) : ∀ (k i : Nat) (t : Int), 0 ≤ t → s.size + 2 < 2 * k + i → i ≤ s.size + 1 →
    intrusionref02_Sum.l0 k s (canon t) i = some (65535 - canon (t + tot ((bytesOf s).drop i)))
  | 0, i, t, _, h, h2 => by omega
  | k + 1, i, t, ht, h, h2 => by
    have hlen := bytesOf_length s
    have hr := canon_range ht
    unfold intrusionref02_Sum.l0
    by_cases h1 : (i : Int) < (s.size : Int)
    · rw [if_pos h1, if_pos (by omega), w64 (n := (i : Int) + 1) (by omega) (by omega)]
      have hb := bt_range s i
      have hb2 := bt_range s ((i : Int) + 1)
      have hm : wrap64 (wrap64 (bt s i) * 256) = bt s i * 256 := by rw [w64 (n := bt s i) (by omega) (by omega), w64 (by omega) (by omega)]
      try rw [hm]
      rw [w64 (n := (i : Int) + 2) (by omega) (by omega), show ((i : Int) + 2) = ((i + 2 : Nat) : Int) by omega]
      by_cases h3 : (i : Int) + 1 < (s.size : Int)
      · rw [if_pos h3, if_pos (by omega)]
        try rw [w64 (n := bt s ((i : Int) + 1)) (by omega) (by omega)]
        rw [w64 (by omega) (by omega), radd_step ht (by omega) (by omega), Option.bind_some,
          rsum_loop s hs k (i + 2) _ (by omega) (by omega) (by omega), drop_two _ i (by omega), tot]
        rw [show ((i : Int) + 1) = ((i + 1 : Nat) : Int) by omega, bt_eq, bt_eq, Int.add_assoc]
      · rw [if_neg h3, radd_step ht (by omega) (by omega), Option.bind_some,
          rsum_loop s hs k (i + 2) _ (by omega) (by omega) (by omega), drop_one _ i (by omega), tot, List.drop_of_length_le (by omega), tot, bt_eq, Int.add_zero]
    · rw [if_neg h1, List.drop_of_length_le (by omega), tot, Int.add_zero, w64 (by omega) (by omega)]
theorem rsum_is (s : ByteArray) (hs : s.size ≤ 4611686018427387904) (k : Nat) (hk : s.size + 2 < k) : intrusionref02_Sum.f k s = some (sumOf s) := by
  have := rsum_loop s hs k 0 0 (by omega) (by omega) (by omega)
  unfold intrusionref02_Sum.f sumOf
  simpa [canon] using this
end Go.Proofs.Ytobioaommmgehaa.Pure


/-! ### RefPut -/
namespace Go.Proofs.Ytobioaommmgehaa.Pure
open Go.RowKit Go.Proofs.Ytobioaommmgehaa.X Go.Proofs.YtobioaommmgehaaW.PrintWords Go.Proofs.YtobioaommmgehaaW.PrintLast Go.Proofs.YtobioaommmgehaaW.PrintMore

end Go.Proofs.Ytobioaommmgehaa.Pure


/-! ### Ip6Y -/
namespace Go.Proofs.Ytobioaommmgehaa.Pure
open Go.RowKit Go.Proofs.Ytobioaommmgehaa.X Go.Proofs.YtobioaommmgehaaW.PrintWords Go.Proofs.YtobioaommmgehaaW.PrintLast Go.Proofs.YtobioaommmgehaaW.PrintMore

end Go.Proofs.Ytobioaommmgehaa.Pure


/-! ### Ip4E -/
set_option linter.unusedVariables false
set_option linter.unusedSimpArgs false
namespace Go.Proofs.Ytobioaommmgehaa.Pure
open Go.RowKit Go.Proofs.Ytobioaommmgehaa.X Go.Proofs.YtobioaommmgehaaW.PrintWords Go.Proofs.YtobioaommmgehaaW.PrintLast Go.Proofs.YtobioaommmgehaaW.PrintMore

/-- The flags and the offset. -/
def flg (off : Int) (dn mr : Bool) : Int := off / 8 + (if dn = true then 16384 else 0) + (if mr = true then 8192 else 0)
section
variable (c id tt pr : Int) (dn mr : Bool) (off : Int) (v : Bool) (s1 s2 : Int) (w : Bool) (d1 d2 : Int)
/-- The bytes ahead of the checksum, and behind it. -/
def h4A (o p : ByteArray) : List Int := [64 + (20 + (o.size : Int)) / 4] ++ [c] ++ beN 2 (20 + (o.size : Int) + p.size) ++ beN 2 id ++ beN 2 (flg off dn mr) ++ [tt] ++ [pr]
def h4B (o : ByteArray) : List Int := adrB v s1 s2 ++ adrB w d1 d2 ++ bytesOf o
def e4Of (o p : ByteArray) : ByteArray := strOfNums (h4A c id tt pr dn mr off o p ++ beN 2 (sumOf (strOfNums (h4A c id tt pr dn mr off o p ++ [0, 0] ++ h4B v s1 s2 w d1 d2 o))) ++ h4B v s1 s2 w d1 d2 o ++ bytesOf p)
def okN4 : Prop := (0 ≤ c ∧ c ≤ 255) ∧ (0 ≤ tt ∧ tt ≤ 255) ∧ (0 ≤ pr ∧ pr ≤ 255) ∧ (0 ≤ id ∧ id ≤ 65535) ∧ (0 ≤ off ∧ off ≤ 65528) ∧ Int.tmod off 8 = 0
instance : Decidable (okN4 c id tt pr off) := by unfold okN4; infer_instance
def ok4 : Prop := okN4 c id tt pr off ∧ (v = false ∧ s1 = 0 ∧ s2 ≤ 4294967295) ∧ (w = false ∧ d1 = 0 ∧ d2 ≤ 4294967295)
instance : Decidable (ok4 c id tt pr off v s1 s2 w d1 d2) := by unfold ok4; infer_instance
variable (l : List S50)
end
section
variable (c id tt pr : Int) (dn mr : Bool) (off : Int) (v : Bool) (s1 s2 : Int) (w : Bool) (d1 d2 : Int) (p : ByteArray)
/-- What Encode answers for a packet with no options. -/
def enc0Of : ByteArray × Int := if ok4 c id tt pr off v s1 s2 w d1 d2 then (if 20 + (p.size : Int) > 65535 then (⟨#[]⟩, 3) else (e4Of c id tt pr false false off v s1 s2 w d1 d2 ⟨#[]⟩ p, 0)) else (⟨#[]⟩, 4)
end
end Go.Proofs.Ytobioaommmgehaa.Pure


/-! ### Ip4W -/
set_option linter.unusedVariables false
set_option linter.unusedSimpArgs false
namespace Go.Proofs.Ytobioaommmgehaa.Pure
open Go.RowKit Go.Proofs.Ytobioaommmgehaa.X Go.Proofs.YtobioaommmgehaaW.PrintWords Go.Proofs.YtobioaommmgehaaW.PrintLast Go.Proofs.YtobioaommmgehaaW.PrintMore

def optB (x : S50) : List Int := x.f0 :: ((x.f1.size : Int) + 2) :: bytesOf x.f1
def optsB : List S50 → List Int
  | [] => []
  | x :: r => optB x ++ optsB r
def padN (n : Nat) : Nat := (4 - n % 4) % 4
/-- The bytes of the options, padded. -/
def wrB (l : List S50) : List Int := optsB l ++ List.replicate (padN (optsB l).length) 0
def okK (l : List S50) : Prop := ∀ x ∈ l, 2 ≤ x.f0 ∧ x.f0 ≤ 255
instance (l : List S50) : Decidable (okK l) := by unfold okK; infer_instance
theorem optB_len (x : S50) : (optB x).length = 2 + x.f1.size := by unfold optB; have := bytesOf_length x.f1; simp; omega
section
variable (c id tt pr : Int) (dn mr : Bool) (off : Int) (v : Bool) (s1 s2 : Int) (w : Bool) (d1 d2 : Int) (l : List S50) (p : ByteArray)
/-- What Encode answers. -/
def enc4Of : ByteArray × Int := if ok4 c id tt pr off v s1 s2 w d1 d2 ∧ okK l then (if (optsB l).length > 40 ∨ 20 + (wrB l).length + p.size > 65535 then (⟨#[]⟩, 3) else (e4Of c id tt pr dn mr off v s1 s2 w d1 d2 (strOfNums (wrB l)) p, 0)) else (⟨#[]⟩, 4)
end
end Go.Proofs.Ytobioaommmgehaa.Pure


/-! ### Reader -/
namespace Go.Proofs.Ytobioaommmgehaa.Pure
open Go.RowKit Go.Proofs.Ytobioaommmgehaa.X Go.Proofs.YtobioaommmgehaaW.PrintWords Go.Proofs.YtobioaommmgehaaW.PrintLast Go.Proofs.YtobioaommmgehaaW.PrintMore

theorem nil_size : (⟨#[]⟩ : ByteArray).size = 0 := rfl
/-- What 'next' returns, with permission. -/
theorem next_is (s : ByteArray) (i : Nat) (e n : Int) (hs : s.size ≤ 4611686018427387904) (hi : i ≤ s.size) (hn : 0 ≤ n) (hn2 : n ≤ 9223372036854775807) :
    field_Reader_next.f s (i : Int) e n true = some (if e = 0 then (if n > (s.size : Int) - i then ((⟨#[]⟩ : ByteArray), s, (i : Int), 1) else (s.extract i (i + n.toNat), s, (i : Int) + n, 0)) else ((⟨#[]⟩ : ByteArray), s, (i : Int), e)) := by
  unfold field_Reader_next.f
  by_cases h : e = 0
  · subst h
    rw [if_pos rfl, if_pos rfl, if_pos rfl, w64 (n := (s.size : Int) - i) (by omega) (by omega)]
    by_cases h2 : n > (s.size : Int) - i
    · rw [if_pos h2, if_pos h2]
    · rw [if_neg h2, if_neg h2, w64 (n := (i : Int) + n) (by omega) (by omega), w64 (n := (i : Int) + n - n) (by omega) (by omega), if_pos (by omega), if_pos (by omega), if_pos (by omega)]
      rw [show ((i : Int) + n - n).toNat = i by omega, show ((i : Int) + n).toNat = i + n.toNat by omega]
  · rw [if_neg h, if_neg h]
theorem int_is (s : ByteArray) (i n : Nat) (e : Int) (k : Nat) (hs : s.size ≤ 4611686018427387904) (hi : i ≤ s.size) (h1 : 1 ≤ n) (h7 : n ≤ 7) (hk : 8 ≤ k) :
    field_Reader_Int.f k s (i : Int) e (n : Int) = some (if e = 0 then (if s.size < i + n then (0, s, (i : Int), 1) else (valBE (bytesOf (s.extract i (i + n))), s, ((i + n : Nat) : Int), 0)) else (0, s, (i : Int), e)) := by
  unfold field_Reader_Int.f field_valid.f
  rw [if_pos (show (n : Int) ≥ 1 by omega), decide_eq_true (show (n : Int) ≤ 7 by omega)]
  simp only [bs]
  rw [next_is s i e _ hs hi (by omega) (by omega)]
  have z : field_number.f k (bytesOf (⟨#[]⟩ : ByteArray)) = some 0 := by rw [number_is _ (bytesOf_range _) (by decide) _ hk]; rfl
  by_cases h : e = 0
  · rw [if_pos h, if_pos h]
    by_cases h2 : (n : Int) > (s.size : Int) - i
    · rw [if_pos h2, if_pos (by omega)]
      simp only [bs, z, nil_size]
      rfl
    · rw [if_neg h2, if_neg (by omega)]
      have z2 : (s.extract i (i + n)).size = n := by simp; omega
      have hb := bytesOf_length (s.extract i (i + n))
      simp only [bs, Int.toNat_natCast]
      rw [if_pos (by omega), number_is _ (bytesOf_range _) (by omega) _ hk]
      simp only [bs]
      rw [show (i : Int) + (n : Int) = ((i + n : Nat) : Int) by omega]
  · rw [if_neg h, if_neg h]
    simp only [bs, z, nil_size]
    rfl
end Go.Proofs.Ytobioaommmgehaa.Pure


/-! ### Ip4T -/
set_option linter.unusedVariables false
set_option linter.unusedSimpArgs false
namespace Go.Proofs.Ytobioaommmgehaa.Pure
open Go.RowKit Go.Proofs.Ytobioaommmgehaa.X Go.Proofs.YtobioaommmgehaaW.PrintWords Go.Proofs.YtobioaommmgehaaW.PrintLast Go.Proofs.YtobioaommmgehaaW.PrintMore

theorem nat_and_pow (n i : Nat) : n &&& 2 ^ i = n / 2 ^ i % 2 * 2 ^ i := by
  apply Nat.eq_of_testBit_eq
  intro j
  rw [Nat.testBit_and, Nat.testBit_two_pow, Nat.testBit_mul_two_pow]
  by_cases h : i = j
  · subst h
    rw [decide_eq_true rfl, Bool.and_true, Nat.sub_self, decide_eq_true (Nat.le_refl i), Bool.true_and, Nat.testBit_eq_decide_div_mod_eq, Nat.testBit_eq_decide_div_mod_eq]
    apply decide_eq_decide.mpr
    rw [Nat.pow_zero, Nat.div_one]
    omega
  · rw [decide_eq_false h, Bool.and_false]
    by_cases hj : i ≤ j
    · have h2 : 2 ^ 1 ≤ 2 ^ (j - i) := Nat.pow_le_pow_right (by omega) (by omega)
      rw [decide_eq_true hj, Bool.true_and, Nat.testBit_eq_decide_div_mod_eq, Nat.div_eq_of_lt (by omega)]
      rfl
    · rw [decide_eq_false hj, Bool.false_and]
theorem and_pow (x : Int) (h0 : 0 ≤ x) (h1 : x < 9223372036854775807) (i : Nat) (hi : i < 62) : Go.bits .and .i64 x ((2 ^ i : Nat) : Int) = x / ((2 ^ i : Nat) : Int) % 2 * ((2 ^ i : Nat) : Int) := by
  obtain ⟨n, rfl⟩ := Int.eq_ofNat_of_zero_le h0
  have hp : 2 ^ i < 2 ^ 62 := Nat.pow_lt_pow_right (by omega) hi
  show IntKind.i64.wrap ((BitVec.ofInt 64 (n : Int) &&& BitVec.ofInt 64 ((2 ^ i : Nat) : Int)).toNat : Int) = _
  rw [BitVec.toNat_and, ofInt_u64 n (by omega), ofInt_u64 (2 ^ i) (by omega), nat_and_pow]
  have hm : n / 2 ^ i % 2 * 2 ^ i ≤ 1 * 2 ^ i := Nat.mul_le_mul_right _ (by omega)
  rw [Go.Lib.wrap_i64_small _ (by omega)]
  push_cast
  rfl
theorem and15 (x : Int) (h0 : 0 ≤ x) (h1 : x < 65536) : Go.bits .and .i64 x 32768 = x / 32768 % 2 * 32768 := and_pow x h0 (by omega) 15 (by omega)
theorem and14 (x : Int) (h0 : 0 ≤ x) (h1 : x < 65536) : Go.bits .and .i64 x 16384 = x / 16384 % 2 * 16384 := and_pow x h0 (by omega) 14 (by omega)
theorem and13 (x : Int) (h0 : 0 ≤ x) (h1 : x < 65536) : Go.bits .and .i64 x 8192 = x / 8192 % 2 * 8192 := and_pow x h0 (by omega) 13 (by omega)
theorem and8191 (x : Int) (h0 : 0 ≤ x) (h1 : x < 65536) : Go.bits .and .i64 x 8191 = x % 8192 :=
  bits_mask .i64 63 (by decide) wraps_i64' 13 (by omega) x h0 (by omega)
theorem and15u : ∀ x : Fin 256, Go.bits .and .u8 (x.val : Int) 15 = (x.val : Int) % 16 := by decide +kernel
theorem take1_4 (L : List Int) (i : Nat) (h : i < L.length) : valBE ((L.drop i).take 1) = L.getD i 0 := by
  have e : (L.drop i).take 1 = [L[i]] := by rw [List.drop_eq_getElem_cons h]; rfl
  rw [e, List.getD_eq_getElem?_getD, List.getElem?_eq_getElem h]
  simp [valBE]
theorem rint4 (s : ByteArray) (i z : Nat) (k : Nat) (hs : s.size ≤ 4611686018427387904) (hi : i + z ≤ s.size) (h1 : 1 ≤ z) (h7 : z ≤ 7) (hk : 8 ≤ k) :
    field_Reader_Int.f k s (i : Int) 0 (z : Int) = some (valBE (((bytesOf s).drop i).take z), s, ((i + z : Nat) : Int), 0) := by
  rw [int_is s i z 0 k hs (by omega) h1 h7 hk, if_pos rfl, if_neg (by omega), bytesOf_extract, show i + z - i = z by omega]
theorem rtake4 (s : ByteArray) (i z : Nat) (hs : s.size ≤ 4611686018427387904) (hi : i + z ≤ s.size) :
    field_Reader_Take.f s (i : Int) 0 (z : Int) = some (s.extract i (i + z), s, ((i + z : Nat) : Int), 0) := by
  unfold field_Reader_Take.f
  rw [decide_eq_true (show (z : Int) ≥ 0 by omega), next_is s i 0 _ hs (by omega) (by omega) (by omega), if_pos rfl, if_neg (by omega)]
  simp only [bs, Int.toNat_natCast]
  rw [show (i : Int) + (z : Int) = ((i + z : Nat) : Int) by omega]
theorem aF4 (s : ByteArray) (i : Nat) (hi : i + 4 ≤ s.size) (k : Nat) (hk : 10 ≤ k) : address_FromBytes.f k (s.extract i (i + 4)) = some (false, 0, valBE (((bytesOf s).drop i).take 4), 0) := by
  rw [aFrom4 _ (by rw [ByteArray.size_extract]; omega) k hk, bytesOf_extract, show i + 4 - i = 4 by omega]
theorem dt_range (s : ByteArray) (i z : Nat) : ∀ x ∈ ((bytesOf s).drop i).take z, 0 ≤ x ∧ x < 256 := fun x hx => bytesOf_range s x (List.mem_of_mem_drop (List.mem_of_mem_take hx))
/-- The options of a header; false: they are malformed. -/
def opts4 : Nat → List Int → List S50 → List S50 × Bool
  | 0, _, _ => ([], false)
  | m + 1, b, l =>
    if b.length = 0 ∨ b.getD 0 0 = 0 then (l, true)
    else if b.getD 0 0 = 1 then opts4 m (b.drop 1) l
    else if b.length = 1 then ([], false)
    else if b.getD 1 0 < 2 ∨ (b.length : Int) < b.getD 1 0 then ([], false)
    else opts4 m (b.drop (b.getD 1 0).toNat) (l ++ [(⟨b.getD 0 0, strOfNums ((b.take (b.getD 1 0).toNat).drop 2)⟩ : S50)])
theorem getD_drop4 (b : List Int) (i j : Nat) : (b.drop i).getD j 0 = b.getD (i + j) 0 := by
  rw [List.getD_eq_getElem?_getD, List.getD_eq_getElem?_getD, List.getElem?_drop]
theorem rd_nat (b : List Int) (i : Nat) : rd b (i : Int) = b.getD i 0 := by
  unfold rd
  rw [Int.toNat_natCast]
theorem opts_loop (b : List Int) (hb : b.length ≤ 1000000) (hr : ∀ x ∈ b, 0 ≤ x ∧ x < 256) : ∀ (m i k : Nat) (l : List S50), b.length ≤ i + m → i ≤ b.length → l.length ≤ i →
    ipv4_options.l0 (k + m + 1) b l (i : Int) = some (opts4 (m + 1) (b.drop i) l)
  | m, i, k, l, hm, hi, hl => by
    have hg : ∀ j, 0 ≤ b.getD j 0 ∧ b.getD j 0 < 256 := fun j => by
      rw [List.getD_eq_getElem?_getD]
      cases h : b[j]? with
      | none => simp
      | some v => exact hr v (List.mem_of_getElem? h)
    rw [ipv4_options.l0, opts4, List.length_drop, getD_drop4, getD_drop4, Nat.add_zero]
    by_cases h : i = b.length
    · rw [if_neg (by omega), if_pos (.inl (by omega))]
    rw [if_pos (by omega), if_pos (by omega), rd_nat]
    by_cases h0 : b.getD i 0 = 0
    · rw [if_pos h0, if_pos (.inr h0)]
    rw [if_neg h0, if_neg (show ¬ (b.length - i = 0 ∨ b.getD i 0 = 0) from fun z => z.elim (fun y => by omega) h0)]
    obtain ⟨m, rfl⟩ : ∃ q, m = q + 1 := ⟨m - 1, by omega⟩
    rw [w64 (n := (i : Int) + 1) (by omega) (by omega)]
    by_cases h1 : b.getD i 0 = 1
    · rw [if_pos h1, if_pos h1, show (i : Int) + 1 = ((i + 1 : Nat) : Int) by omega, show k + (m + 1) = k + m + 1 by omega, opts_loop b hb hr m (i + 1) k l (by omega) (by omega) (by omega), List.drop_drop]
    rw [if_neg h1, if_neg h1]
    by_cases h2 : i + 1 = b.length
    · rw [if_pos (by omega), if_pos (by omega)]
    have hv := hg (i + 1)
    rw [if_neg (by omega), if_pos (by omega), if_pos (by omega), if_neg (show ¬ (b.length - i = 1) by omega), show (i : Int) + 1 = ((i + 1 : Nat) : Int) by omega, rd_nat]
    generalize hw : b.getD (i + 1) 0 = v at hv ⊢
    rw [w64 (n := v) (by omega) (by omega), w64 (n := (i : Int) + v) (by omega) (by omega), w64 (n := (i : Int) + 2) (by omega) (by omega)]
    by_cases h3 : v < 2
    · rw [if_pos (by omega), if_pos (.inl h3)]
    rw [if_neg (by omega)]
    by_cases h4 : (i : Int) + v > (b.length : Int)
    · rw [if_pos h4, if_pos (.inr (by omega))]
    rw [if_neg h4, if_neg (show ¬ (v < 2 ∨ ((b.length - i : Nat) : Int) < v) from fun z => z.elim h3 (fun y => by omega)), if_pos (by omega), if_pos (by omega), if_pos (by omega), if_pos (by omega),
      w64 (n := b.getD i 0) (by have := hg i; omega) (by have := hg i; omega)]
    obtain ⟨n, rfl⟩ : ∃ n : Nat, v = n := ⟨v.toNat, by omega⟩
    rw [show (i : Int) + (n : Int) = ((i + n : Nat) : Int) by omega, show (i : Int) + 2 = ((i + 2 : Nat) : Int) by omega, Int.toNat_natCast, Int.toNat_natCast, Int.toNat_natCast, show k + (m + 1) = (k + m) + 1 by omega]
    obtain ⟨d, hd⟩ : ∃ d, m = d + (n - 1) := ⟨m - (n - 1), by omega⟩
    have e1 : (b.take (i + n)).drop (i + 2) = ((b.drop i).take n).drop 2 := by
      rw [List.drop_take, List.drop_take, List.drop_drop, show i + n - (i + 2) = n - 2 by omega]
    rw [e1, opts_loop b hb hr m (i + n) k _ (by omega) (by omega) (by rw [List.length_append]; simp; omega), List.drop_drop]
  termination_by m => m
theorem options_is (s : ByteArray) (hs : s.size ≤ 1000000) (k : Nat) : ipv4_options.f (k + s.size + 1) s = some (opts4 (s.size + 1) (bytesOf s) []) := by
  have hl := bytesOf_length s
  unfold ipv4_options.f
  rw [if_pos (by omega)]
  have := opts_loop (bytesOf s) (by omega) (bytesOf_range s) s.size 0 k [] (by omega) (by omega) (by simp)
  rw [List.drop_zero] at this
  exact this
abbrev P4 := Int × Int × Int × Int × Bool × Bool × Int × Bool × Int × Int × Bool × Int × Int × (List (S50)) × ByteArray × Int
def bad4 (e : Int) : P4 := (0, 0, 0, 0, false, false, 0, false, 0, 0, false, 0, 0, ([] : List (S50)), (⟨#[]⟩ : ByteArray), e)
/-- The length of the header. -/
def hl4 (L : List Int) : Nat := 4 * (L.getD 0 0 % 16).toNat
/-- What Decode answers. -/
def dec4Of (L : List Int) : P4 :=
  if L.length < 20 then bad4 1
  else if L.getD 0 0 / 16 ≠ 4 ∨ hl4 L < 20 then bad4 2
  else if L.length < hl4 L ∨ (L.length : Int) < valBE ((L.drop 2).take 2) then bad4 1
  else if valBE ((L.drop 2).take 2) < (hl4 L : Int) then bad4 2
  else if sumOf (strOfNums (L.take (hl4 L))) ≠ 0 then bad4 8
  else if (opts4 (hl4 L - 20 + 1) ((L.take (hl4 L)).drop 20) []).2 = false ∨ valBE ((L.drop 6).take 2) / 32768 % 2 ≠ 0 then bad4 2
  else (L.getD 1 0, valBE ((L.drop 4).take 2), L.getD 8 0, L.getD 9 0, (valBE ((L.drop 6).take 2) / 16384 % 2 != 0), (valBE ((L.drop 6).take 2) / 8192 % 2 != 0), 8 * (valBE ((L.drop 6).take 2) % 8192),
    false, 0, valBE ((L.drop 12).take 4), false, 0, valBE ((L.drop 16).take 4), (opts4 (hl4 L - 20 + 1) ((L.take (hl4 L)).drop 20) []).1, strOfNums ((L.take (valBE ((L.drop 2).take 2)).toNat).drop (hl4 L)), 0)
theorem decode4_is (s : ByteArray) (hs : s.size ≤ 4611686018427387904) (k : Nat) (hk : 200 ≤ k) : ipv4_Decode.f k s = some (dec4Of (bytesOf s)) := by
  have hl := bytesOf_length s
  obtain ⟨q, rfl⟩ : ∃ q, k = q + 2 := ⟨k - 2, by omega⟩
  unfold ipv4_Decode.f dec4Of
  by_cases h20 : (s.size : Int) < 20
  · rw [if_pos h20, if_pos (by omega)]
    rfl
  have hb0 : bt s 0 = (bytesOf s).getD 0 0 := bt_eq s 0
  have hr0 := bt_range s 0
  have e15 : wrap64 (4 * wrap64 (Go.bits .and .u8 (bt s 0) 15)) = (hl4 (bytesOf s) : Int) := by
    have := and15u ⟨(bt s 0).toNat, by omega⟩
    rw [show (((⟨(bt s 0).toNat, by omega⟩ : Fin 256).val : Nat) : Int) = bt s 0 from by show (((bt s 0).toNat : Nat) : Int) = _; omega] at this
    rw [this, w64 (n := bt s 0 % 16) (by omega) (by omega), w64 (by omega) (by omega)]
    unfold hl4
    rw [← hb0]
    omega
  rw [if_neg h20, if_pos (show (0 : Int) < (s.size : Int) by omega), if_neg (show ¬ (bytesOf s).length < 20 by omega), e15, hb0]
  have hH : hl4 (bytesOf s) ≤ 60 := by unfold hl4; omega
  by_cases h4 : (bytesOf s).getD 0 0 / 16 = 4
  case neg =>
    rw [if_neg h4, if_pos (.inl h4), ipv4_Decode.j0, if_pos rfl]
    rfl
  rw [if_pos h4]
  by_cases h5 : hl4 (bytesOf s) < 20
  · rw [if_pos (.inr h5), ipv4_Decode.j0, if_pos (by simp; omega)]
    rfl
  rw [if_neg (show ¬ ((bytesOf s).getD 0 0 / 16 ≠ 4 ∨ hl4 (bytesOf s) < 20) from fun z => z.elim (fun y => y h4) h5), ipv4_Decode.j0, if_neg (by simp; omega)]
  have r0 := rint4 s 0 1 (q + 1) hs (by omega) (by omega) (by omega) (by omega)
  have r1 := rint4 s 1 1 (q + 1) hs (by omega) (by omega) (by omega) (by omega)
  have r2 := rint4 s 2 2 (q + 1) hs (by omega) (by omega) (by omega) (by omega)
  have r4 := rint4 s 4 2 (q + 1) hs (by omega) (by omega) (by omega) (by omega)
  have r6 := rint4 s 6 2 (q + 1) hs (by omega) (by omega) (by omega) (by omega)
  have r8 := rint4 s 8 1 (q + 1) hs (by omega) (by omega) (by omega) (by omega)
  have r9 := rint4 s 9 1 (q + 1) hs (by omega) (by omega) (by omega) (by omega)
  have r10 := rint4 s 10 2 (q + 1) hs (by omega) (by omega) (by omega) (by omega)
  have t12 := rtake4 s 12 4 hs (by omega)
  have t16 := rtake4 s 16 4 hs (by omega)
  have a12 := aF4 s 12 (by omega) q (by omega)
  have a16 := aF4 s 16 (by omega) q (by omega)
  have v2 := valBE_range _ (dt_range s 2 2)
  have v6 := valBE_range _ (dt_range s 6 2)
  rw [show (((bytesOf s).drop 2).take 2).length = 2 by simp; omega] at v2
  rw [show (((bytesOf s).drop 6).take 2).length = 2 by simp; omega] at v6
  rw [take1_4 _ _ (by omega)] at r0 r1 r8 r9
  simp only [show ((0 : Nat) : Int) = 0 from rfl, show ((1 : Nat) : Int) = 1 from rfl, show ((2 : Nat) : Int) = 2 from rfl, show ((4 : Nat) : Int) = 4 from rfl, Nat.reduceAdd, show ((6 : Nat) : Int) = 6 from rfl, show ((8 : Nat) : Int) = 8 from rfl, show ((9 : Nat) : Int) = 9 from rfl, show ((10 : Nat) : Int) = 10 from rfl, show ((12 : Nat) : Int) = 12 from rfl, show ((16 : Nat) : Int) = 16 from rfl] at r0 r1 r2 r4 r6 r8 r9 r10 t12 t16 a12 a16
  simp only [field_NewReader.f, bs, r0, r1, r2, r4, r6, r8, r9, r10]
  obtain ⟨n, hn⟩ : ∃ n : Nat, valBE (((bytesOf s).drop 2).take 2) = n := ⟨_, (Int.toNat_of_nonneg v2.1).symm⟩
  rw [hn] at v2 ⊢
  rw [Int.toNat_natCast]
  generalize hx : valBE (((bytesOf s).drop 6).take 2) = x at v6 ⊢
  by_cases h6 : (hl4 (bytesOf s) : Int) > (s.size : Int)
  · rw [if_pos h6, if_pos (.inl (by omega)), ipv4_Decode.j1, if_pos rfl]
    rfl
  rw [if_neg h6]
  by_cases h7 : (n : Int) > (s.size : Int)
  · rw [if_pos (show (bytesOf s).length < hl4 (bytesOf s) ∨ ((bytesOf s).length : Int) < n from .inr (by omega)), ipv4_Decode.j1, if_pos (by simp; omega)]
    rfl
  rw [if_neg (show ¬ ((bytesOf s).length < hl4 (bytesOf s) ∨ ((bytesOf s).length : Int) < n) by omega), ipv4_Decode.j1, if_neg (by simp; omega)]
  by_cases h8 : (n : Int) < (hl4 (bytesOf s) : Int)
  · rw [if_pos h8, if_pos h8]
    rfl
  rw [if_neg h8, if_neg h8, if_pos (by omega), if_pos (by omega), Int.toNat_natCast]
  have eS : s.extract 0 (hl4 (bytesOf s)) = strOfNums ((bytesOf s).take (hl4 (bytesOf s))) := by
    rw [← str_bytes (s.extract 0 (hl4 (bytesOf s))), bytesOf_extract, List.drop_zero, Nat.sub_zero]
  rw [eS, sum_is _ (by rw [strOfNums_size, List.length_take]; omega) q (by rw [strOfNums_size, List.length_take]; omega)]
  simp only [bs]
  by_cases h9 : sumOf (strOfNums ((bytesOf s).take (hl4 (bytesOf s)))) = 0
  case neg =>
    rw [if_neg h9, if_pos (show sumOf (strOfNums ((bytesOf s).take (hl4 (bytesOf s)))) ≠ 0 from h9)]
    rfl
  rw [if_pos h9, if_neg (show ¬ sumOf (strOfNums ((bytesOf s).take (hl4 (bytesOf s)))) ≠ 0 from fun z => z h9)]
  simp only [t12, a12, t16, a16, bs]
  rw [if_pos (by omega)]
  have zo : (s.extract 20 (hl4 (bytesOf s))).size = hl4 (bytesOf s) - 20 := by rw [ByteArray.size_extract]; omega
  have ho := options_is (s.extract 20 (hl4 (bytesOf s))) (by omega) (q - (hl4 (bytesOf s) - 20) - 1)
  rw [zo, show q - (hl4 (bytesOf s) - 20) - 1 + (hl4 (bytesOf s) - 20) + 1 = q by omega, bytesOf_extract, ← List.drop_take] at ho
  rw [ho]
  simp only [bs]
  generalize opts4 (hl4 (bytesOf s) - 20 + 1) (((bytesOf s).take (hl4 (bytesOf s))).drop 20) [] = o
  cases ho2 : o.2 with
  | false =>
    rw [if_neg (by decide), if_pos (.inl rfl)]
    rfl
  | true =>
    rw [if_pos rfl, and15 x v6.1 (by omega), and14 x v6.1 (by omega), and13 x v6.1 (by omega), and8191 x v6.1 (by omega)]
    by_cases hz : x / 32768 % 2 = 0
    case neg =>
      rw [if_neg (by omega), if_pos (.inr hz)]
      rfl
    rw [if_pos (by omega), if_neg (show ¬ (true = false ∨ x / 32768 % 2 ≠ 0) from fun z => z.elim (fun y => by cases y) (fun y => y hz)), if_pos (by omega), if_pos (by omega), w64 (n := 8 * (x % 8192)) (by omega) (by omega)]
    have e14 : (x / 16384 % 2 * 16384 != 0) = (x / 16384 % 2 != 0) := by
      rw [Bool.eq_iff_iff, bne_iff_ne, bne_iff_ne]; omega
    have e13 : (x / 8192 % 2 * 8192 != 0) = (x / 8192 % 2 != 0) := by
      rw [Bool.eq_iff_iff, bne_iff_ne, bne_iff_ne]; omega
    have eP : s.extract (hl4 (bytesOf s)) n = strOfNums (((bytesOf s).take n).drop (hl4 (bytesOf s))) := by
      rw [← str_bytes (s.extract (hl4 (bytesOf s)) n), bytesOf_extract, List.drop_take]
    rw [e14, e13, Int.toNat_natCast, eP]
end Go.Proofs.Ytobioaommmgehaa.Pure


/-! ### Ip4R -/
set_option linter.unusedVariables false
set_option linter.unusedSimpArgs false
namespace Go.Proofs.Ytobioaommmgehaa.Pure
open Go.RowKit Go.Proofs.Ytobioaommmgehaa.X Go.Proofs.YtobioaommmgehaaW.PrintWords Go.Proofs.YtobioaommmgehaaW.PrintLast Go.Proofs.YtobioaommmgehaaW.PrintMore

section
variable (c id tt pr : Int) (dn mr : Bool) (off : Int) (s2 d2 : Int)
end
end Go.Proofs.Ytobioaommmgehaa.Pure


/-! ### Ip4O -/
set_option linter.unusedVariables false
set_option linter.unusedSimpArgs false
namespace Go.Proofs.Ytobioaommmgehaa.Pure
open Go.RowKit Go.Proofs.Ytobioaommmgehaa.X Go.Proofs.YtobioaommmgehaaW.PrintWords Go.Proofs.YtobioaommmgehaaW.PrintLast Go.Proofs.YtobioaommmgehaaW.PrintMore

/-- What is read can be written. -/
theorem opts_ok : ∀ (m : Nat) (b : List Int) (l r : List S50), (∀ x ∈ b, 0 ≤ x ∧ x < 256) → opts4 m b l = (r, true) → ∃ t, r = l ++ t ∧ okK t ∧ (optsB t).length ≤ b.length
  | 0, b, l, r, _, h => by
    rw [opts4] at h
    have := congrArg Prod.snd h
    cases this
  | m + 1, b, l, r, hb, h => by
    have hg : ∀ j, 0 ≤ b.getD j 0 ∧ b.getD j 0 < 256 := fun j => by
      rw [List.getD_eq_getElem?_getD]
      cases h : b[j]? with
      | none => simp
      | some v => exact hb v (List.mem_of_getElem? h)
    have nil : ∃ t, l = l ++ t ∧ okK t ∧ (optsB t).length ≤ b.length := ⟨[], (List.append_nil l).symm, (show okK ([] : List S50) from fun x hx => by cases hx), Nat.zero_le _⟩
    rw [opts4] at h
    by_cases h0 : b.length = 0 ∨ b.getD 0 0 = 0
    · rw [if_pos h0] at h
      obtain rfl := congrArg Prod.fst h
      exact nil
    rw [if_neg h0] at h
    by_cases h1 : b.getD 0 0 = 1
    · rw [if_pos h1] at h
      obtain ⟨t, e, hK, ht⟩ := opts_ok m (b.drop 1) l r (fun x hx => hb x (List.mem_of_mem_drop hx)) h
      rw [List.length_drop] at ht
      exact ⟨t, e, hK, by omega⟩
    rw [if_neg h1] at h
    by_cases h2 : b.length = 1
    · rw [if_pos h2] at h
      have := congrArg Prod.snd h
      cases this
    rw [if_neg h2] at h
    by_cases h3 : b.getD 1 0 < 2 ∨ (b.length : Int) < b.getD 1 0
    · rw [if_pos h3] at h
      have := congrArg Prod.snd h
      cases this
    rw [if_neg h3] at h
    obtain ⟨t, e, hK, ht⟩ := opts_ok m (b.drop (b.getD 1 0).toNat) _ r (fun x hx => hb x (List.mem_of_mem_drop hx)) h
    have v0 := hg 0
    have v1 := hg 1
    have hs : (strOfNums ((b.take (b.getD 1 0).toNat).drop 2)).size = (b.getD 1 0).toNat - 2 := by
      rw [strOfNums_size, List.length_drop, List.length_take]; omega
    refine ⟨⟨b.getD 0 0, strOfNums ((b.take (b.getD 1 0).toNat).drop 2)⟩ :: t, by rw [e, List.append_assoc]; rfl, ?_, ?_⟩
    · intro x hx
      rcases List.mem_cons.mp hx with rfl | hx
      · exact ⟨by show 2 ≤ b.getD 0 0; omega, by show b.getD 0 0 ≤ 255; omega⟩
      · exact hK x hx
    · rw [List.length_drop] at ht
      have h2' : b.length ≠ 0 := fun z => h0 (.inl z)
      simp only [optsB, List.length_append, optB_len]
      rw [hs]
      omega
end Go.Proofs.Ytobioaommmgehaa.Pure


/-! ### Ip4Q -/
set_option linter.unusedVariables false
set_option linter.unusedSimpArgs false
namespace Go.Proofs.Ytobioaommmgehaa.Pure
open Go.RowKit Go.Proofs.Ytobioaommmgehaa.X Go.Proofs.YtobioaommmgehaaW.PrintWords Go.Proofs.YtobioaommmgehaaW.PrintLast Go.Proofs.YtobioaommmgehaaW.PrintMore

theorem getD_byte (L : List Int) (hL : ∀ x ∈ L, 0 ≤ x ∧ x < 256) (j : Nat) : 0 ≤ L.getD j 0 ∧ L.getD j 0 < 256 := by
  rw [List.getD_eq_getElem?_getD]
  cases h : L[j]? with
  | none => simp
  | some v => exact hL v (List.mem_of_getElem? h)
theorem val_range2 (L : List Int) (hL : ∀ x ∈ L, 0 ≤ x ∧ x < 256) (i z : Nat) (h : i + z ≤ L.length) : 0 ≤ valBE ((L.drop i).take z) ∧ valBE ((L.drop i).take z) < 256 ^ z := by
  have := valBE_range _ (fun x hx => hL x (List.mem_of_mem_drop (List.mem_of_mem_take hx)) : ∀ x ∈ (L.drop i).take z, 0 ≤ x ∧ x < 256)
  rwa [show ((L.drop i).take z).length = z by rw [List.length_take, List.length_drop]; omega] at this
theorem dec4_cases (L : List Int) (hL : ∀ x ∈ L, 0 ≤ x ∧ x < 256) :
    (∃ e, e ≠ 0 ∧ dec4Of L = bad4 e) ∨
    (∃ c id tt pr dn mr off s2 d2 l p, dec4Of L = (c, id, tt, pr, dn, mr, off, false, 0, s2, false, 0, d2, l, p, 0) ∧ okN4 c id tt pr off ∧ (0 ≤ s2 ∧ s2 ≤ 4294967295) ∧ (0 ≤ d2 ∧ d2 ≤ 4294967295) ∧ okK l ∧ (optsB l).length ≤ 40 ∧ 20 + (wrB l).length + p.size ≤ L.length ∧ 20 + (wrB l).length + p.size ≤ 65535 ∧ l.length ≤ 40 ∧
      sumOf (strOfNums (L.take (hl4 L))) = 0) := by
  unfold dec4Of
  by_cases h1 : L.length < 20
  · exact .inl ⟨1, by decide, by rw [if_pos h1]⟩
  rw [if_neg h1]
  by_cases h2 : L.getD 0 0 / 16 ≠ 4 ∨ hl4 L < 20
  · exact .inl ⟨2, by decide, by rw [if_pos h2]⟩
  rw [if_neg h2]
  by_cases h3 : L.length < hl4 L ∨ (L.length : Int) < valBE ((L.drop 2).take 2)
  · exact .inl ⟨1, by decide, by rw [if_pos h3]⟩
  rw [if_neg h3]
  by_cases h4 : valBE ((L.drop 2).take 2) < (hl4 L : Int)
  · exact .inl ⟨2, by decide, by rw [if_pos h4]⟩
  rw [if_neg h4]
  by_cases h5 : sumOf (strOfNums (L.take (hl4 L))) ≠ 0
  · exact .inl ⟨8, by decide, by rw [if_pos h5]⟩
  rw [if_neg h5]
  by_cases h6 : (opts4 (hl4 L - 20 + 1) ((L.take (hl4 L)).drop 20) []).2 = false ∨ valBE ((L.drop 6).take 2) / 32768 % 2 ≠ 0
  · exact .inl ⟨2, by decide, by rw [if_pos h6]⟩
  rw [if_neg h6]
  have g0 := getD_byte L hL 0
  have g1 := getD_byte L hL 1
  have g8 := getD_byte L hL 8
  have g9 := getD_byte L hL 9
  have v2 := val_range2 L hL 2 2 (by omega)
  have v4 := val_range2 L hL 4 2 (by omega)
  have v6 := val_range2 L hL 6 2 (by omega)
  have v12 := val_range2 L hL 12 4 (by omega)
  have v16 := val_range2 L hL 16 4 (by omega)
  have h60 : hl4 L ≤ 60 := by unfold hl4; omega
  have h4m : hl4 L % 4 = 0 := by unfold hl4; omega
  obtain ⟨t, ht, hK, hlen⟩ := opts_ok (hl4 L - 20 + 1) ((L.take (hl4 L)).drop 20) [] (opts4 (hl4 L - 20 + 1) ((L.take (hl4 L)).drop 20) []).1 (fun x hx => hL x (List.mem_of_mem_take (List.mem_of_mem_drop hx))) (by
    rw [Prod.ext_iff]
    refine ⟨rfl, ?_⟩
    cases hb : (opts4 (hl4 L - 20 + 1) ((L.take (hl4 L)).drop 20) []).2 with
    | true => rfl
    | false => exact absurd (.inl hb) h6)
  rw [List.nil_append] at ht
  rw [List.length_drop, List.length_take] at hlen
  have hcnt : ∀ q : List S50, q.length ≤ (optsB q).length := by
    intro q
    induction q with
    | nil => exact Nat.zero_le _
    | cons x r ih => simp only [optsB, List.length_cons, List.length_append, optB_len]; omega
  have hc := hcnt t
  have hw : (wrB t).length ≤ hl4 L - 20 := by
    unfold wrB padN
    rw [List.length_append, List.length_replicate]
    omega
  have hps : (strOfNums ((L.take (valBE ((L.drop 2).take 2)).toNat).drop (hl4 L))).size = (valBE ((L.drop 2).take 2)).toNat - hl4 L := by
    rw [strOfNums_size, List.length_drop, List.length_take]; omega
  refine .inr ⟨_, _, _, _, _, _, _, _, _, _, _, rfl, ⟨by omega, by omega, by omega, by omega, by omega, ?_⟩, by omega, by omega, by rw [ht]; exact hK, by rw [ht]; omega, by rw [ht, hps]; omega, by rw [ht, hps]; omega, by rw [ht]; omega, Decidable.not_not.mp h5⟩
  rw [Int.tmod_eq_emod_of_nonneg (by omega)]
  omega
end Go.Proofs.Ytobioaommmgehaa.Pure


/-! ### RefVal -/
namespace Go.Proofs.Ytobioaommmgehaa.Pure
open Go.RowKit Go.Proofs.Ytobioaommmgehaa.X Go.Proofs.YtobioaommmgehaaW.PrintWords Go.Proofs.YtobioaommmgehaaW.PrintLast Go.Proofs.YtobioaommmgehaaW.PrintMore

theorem getD_bt (s : ByteArray) (i : Nat) (h : i < s.size) : bt s (i : Int) = (bytesOf s)[i]'(by rw [bytesOf_length]; exact h) := by
  rw [bt_eq, List.getD_eq_getElem?_getD, List.getElem?_eq_getElem (by rw [bytesOf_length]; exact h)]
  rfl
theorem value_loop (s : ByteArray) (h7 : s.size ≤ 7) : ∀ (m i k : Nat), i + m = s.size →
    intrusionref01_Value.l0 (k + m + 1) s (valBE ((bytesOf s).take i)) i = some (valBE (bytesOf s))
  | 0, i, k, h => by
    have hlen := bytesOf_length s
    unfold intrusionref01_Value.l0
    rw [if_neg (by omega), List.take_of_length_le (by omega)]
  | m + 1, i, k, h => by
    rw [show k + (m + 1) + 1 = (k + m + 1) + 1 by omega]
    have hlen := bytesOf_length s
    have hlt : i < (bytesOf s).length := by omega
    have hl := bytesOf_range s
    generalize hL : bytesOf s = l at *
    have ht : l.take (i + 1) = l.take i ++ [l[i]] := by rw [List.take_add_one]; simp [hlt]
    have e : valBE (l.take (i + 1)) = valBE (l.take i) * 256 + l[i] := by
      rw [ht]; unfold valBE; rw [List.foldl_append]; rfl
    have hr := valBE_range (l.take i) (fun x hx => hl x (List.mem_of_mem_take hx))
    have hc := hl l[i] (List.getElem_mem hlt)
    have hpow : (256 : Int) ^ (l.take i).length ≤ 281474976710656 := by
      have h6 : (l.take i).length ≤ 6 := by simp; omega
      have hn : 256 ^ (l.take i).length ≤ 281474976710656 := Nat.le_trans (Nat.pow_le_pow_right (by decide) h6) (by decide)
      have hc : ((256 ^ (l.take i).length : Nat) : Int) = (256 : Int) ^ (l.take i).length := Int.natCast_pow 256 _
      omega
    have hbt : bt s (i : Int) = l[i] := by rw [getD_bt s i (by omega)]; simp [hL]
    unfold intrusionref01_Value.l0
    rw [if_pos (by omega), if_pos (by omega), hbt, w64 (n := l[i]) (by omega) (by omega), w64 (n := valBE (l.take i) * 256) (by omega) (by omega), w64 (n := valBE (l.take i) * 256 + l[i]) (by omega) (by omega), w64 (n := (i : Int) + 1) (by omega) (by omega), ← e,
      show (i : Int) + 1 = ((i + 1 : Nat) : Int) by omega]
    have := value_loop s h7 m (i + 1) k (by omega)
    rw [hL] at this
    exact this
theorem value_is (s : ByteArray) (h7 : s.size ≤ 7) (k : Nat) (hk : 8 ≤ k) : intrusionref01_Value.f k s = some (valBE (bytesOf s)) := by
  have h := value_loop s h7 s.size 0 (k - s.size - 1) (by omega)
  rw [show k - s.size - 1 + s.size + 1 = k by omega] at h
  unfold intrusionref01_Value.f
  simpa [valBE] using h
end Go.Proofs.Ytobioaommmgehaa.Pure


/-! ### Ip6Z -/
namespace Go.Proofs.Ytobioaommmgehaa.Pure
open Go.RowKit Go.Proofs.Ytobioaommmgehaa.X Go.Proofs.YtobioaommmgehaaW.PrintWords Go.Proofs.YtobioaommmgehaaW.PrintLast Go.Proofs.YtobioaommmgehaaW.PrintMore

theorem rF_loop4 (s : ByteArray) (h4 : s.size = 4) : ∀ (m i k : Nat), i + m = 4 →
    intrusionref06_FromBytes.l0 (k + m + 1) s i false 0 (valBE ((bytesOf s).take i)) = some (false, 0, valBE (bytesOf s), 0)
  | 0, i, k, h => by
    have hl := bytesOf_length s
    unfold intrusionref06_FromBytes.l0
    rw [if_neg (by omega), List.take_of_length_le (by omega)]
  | m + 1, i, k, h => by
    have hl := bytesOf_length s
    rw [show k + (m + 1) + 1 = (k + m + 1) + 1 by omega]
    unfold intrusionref06_FromBytes.l0
    rw [if_pos (by omega), if_neg (by decide), if_pos (by omega), wu64 (n := bt s (i : Int)) (bt_range s i).1 (by have := (bt_range s i).2; omega), bt_get s i (by omega), val_step _ (bytesOf_range s) i (by omega) (by omega), w64 (n := (i : Int) + 1) (by omega) (by omega), show (i : Int) + 1 = ((i + 1 : Nat) : Int) by omega]
    exact rF_loop4 s h4 m (i + 1) k (by omega)
theorem rFrom4 (s : ByteArray) (h : s.size = 4) (k : Nat) (hk : 20 ≤ k) : intrusionref06_FromBytes.f k s = some (false, 0, valBE (bytesOf s), 0) := by
  obtain ⟨j, rfl⟩ : ∃ j, k = j + 4 + 1 + 1 := ⟨k - 6, by omega⟩
  unfold intrusionref06_FromBytes.f
  rw [if_pos (by omega)]
  rw [intrusionref06_FromBytes.j0]
  rw [if_neg (by decide), show ((s.size : Int) == 16) = false from beq_eq_false_iff_ne.mpr (by omega)]
  exact rF_loop4 s h 4 0 j (by omega)
end Go.Proofs.Ytobioaommmgehaa.Pure


/-! ### Ip4D -/
set_option linter.unusedVariables false
set_option linter.unusedSimpArgs false
namespace Go.Proofs.Ytobioaommmgehaa.Pure
open Go.RowKit Go.Proofs.Ytobioaommmgehaa.X Go.Proofs.YtobioaommmgehaaW.PrintWords Go.Proofs.YtobioaommmgehaaW.PrintLast Go.Proofs.YtobioaommmgehaaW.PrintMore

theorem rnum4 (s : ByteArray) (hs : s.size ≤ 4611686018427387904) (i z : Nat) (h1 : 1 ≤ z) (h7 : z ≤ 7) (hi : i + z ≤ s.size) (k : Nat) (hk : 10 ≤ k) :
    intrusionref11_number.f k s (i : Int) (z : Int) = some (valBE (((bytesOf s).drop i).take z)) := by
  obtain ⟨q, rfl⟩ : ∃ q, k = q + 1 := ⟨k - 1, by omega⟩
  unfold intrusionref11_number.f intrusionref01_Get.f
  rw [if_neg (by omega), if_neg (by omega), decide_eq_false (by omega), intrusionref01_Get.j0, if_neg (by decide), if_neg (by omega), w64 (n := (s.size : Int) - (i : Int)) (by omega) (by omega), if_neg (by omega), if_pos (by omega), w64 (n := (i : Int) + (z : Int)) (by omega) (by omega), if_pos (by omega), if_pos (by omega),
    show ((i : Int) + (z : Int)).toNat = i + z by omega, Int.toNat_natCast, value_is _ (by rw [ByteArray.size_extract]; omega) q (by omega), bytesOf_extract, show i + z - i = z by omega]
  simp only [bs]
theorem ropts_loop (s : ByteArray) (hs : s.size ≤ 1000000) : ∀ (m i k : Nat) (l : List S50), s.size ≤ i + m → i ≤ s.size → l.length ≤ i →
    intrusionref11_Options.l0 (k + 2 * m + 2) s l (i : Int) = some (opts4 (m + 1) ((bytesOf s).drop i) l)
  | m, i, k, l, hm, hi, hl => by
    have hbl := bytesOf_length s
    have hv0 := bt_range s (i : Int)
    have e0 : bt s (i : Int) = (bytesOf s).getD i 0 := bt_eq s i
    rw [show k + 2 * m + 2 = (k + 2 * m + 1) + 1 by omega, intrusionref11_Options.l0, opts4, List.length_drop, getD_drop4, getD_drop4, show i + 0 = i from rfl]
    by_cases h : i = s.size
    · rw [if_neg (by omega), if_pos (.inl (by omega)), intrusionref11_Options.j1, if_neg (by decide)]
    rw [if_pos (by omega), if_pos (by omega), ← e0]
    by_cases h0 : bt s (i : Int) = 0
    · rw [if_pos (show (bytesOf s).length - i = 0 ∨ bt s (i : Int) = 0 from .inr h0), h0, show ((0 : Int) != 0) = false from rfl, intrusionref11_Options.j1, if_neg (by decide)]
    rw [show (bt s (i : Int) != 0) = true from bne_iff_ne.mpr h0, if_neg (show ¬ ((bytesOf s).length - i = 0 ∨ bt s (i : Int) = 0) from fun z => z.elim (fun y => by omega) h0), intrusionref11_Options.j1, if_pos rfl, if_pos (by omega), if_pos (by omega)]
    obtain ⟨m, rfl⟩ : ∃ q, m = q + 1 := ⟨m - 1, by omega⟩
    rw [w64 (n := (i : Int) + 1) (by omega) (by omega)]
    by_cases h1 : bt s (i : Int) = 1
    · rw [if_pos h1, if_pos h1, show (i : Int) + 1 = ((i + 1 : Nat) : Int) by omega, show k + 2 * (m + 1) = k + 2 * m + 2 by omega, ropts_loop s hs m (i + 1) k l (by omega) (by omega) (by omega), List.drop_drop]
    rw [if_neg h1, if_neg h1]
    by_cases h2 : i + 1 = s.size
    · rw [if_pos (by omega), if_pos (by omega)]
    have hv := bt_range s ((i : Int) + 1)
    have e1 : bt s ((i : Int) + 1) = (bytesOf s).getD (i + 1) 0 := by rw [show (i : Int) + 1 = ((i + 1 : Nat) : Int) by omega]; exact bt_eq s (i + 1)
    rw [if_neg (by omega), if_pos (by omega), if_pos (by omega), if_neg (show ¬ ((bytesOf s).length - i = 1) by omega), ← e1]
    generalize bt s ((i : Int) + 1) = v at hv e1 ⊢
    rw [w64 (n := v) (by omega) (by omega), w64 (n := (i : Int) + v) (by omega) (by omega), w64 (n := (i : Int) + 2) (by omega) (by omega)]
    by_cases h3 : v < 2
    · rw [if_pos h3, if_pos (show v < 2 ∨ (((bytesOf s).length - i : Nat) : Int) < v from .inl h3)]
    rw [if_neg h3]
    by_cases h4 : (i : Int) + v > (s.size : Int)
    · rw [if_pos h4, if_pos (show v < 2 ∨ (((bytesOf s).length - i : Nat) : Int) < v from .inr (by omega))]
    rw [if_neg h4, if_neg (show ¬ (v < 2 ∨ (((bytesOf s).length - i : Nat) : Int) < v) from fun z => z.elim h3 (fun y => by omega)), if_pos (by omega), if_pos (by omega), if_pos (by omega), if_pos (by omega),
      w64 (n := bt s (i : Int)) (by omega) (by omega)]
    obtain ⟨n, rfl⟩ : ∃ n : Nat, v = n := ⟨v.toNat, by omega⟩
    have ex : s.extract (i + 2) (i + n) = strOfNums ((((bytesOf s).drop i).take n).drop 2) := by
      rw [← str_bytes (s.extract (i + 2) (i + n)), bytesOf_extract, List.drop_take, List.drop_drop, show i + n - (i + 2) = n - 2 by omega]
    rw [show (i : Int) + (n : Int) = ((i + n : Nat) : Int) by omega, show (i : Int) + 2 = ((i + 2 : Nat) : Int) by omega, Int.toNat_natCast, Int.toNat_natCast, Int.toNat_natCast, ex, show k + 2 * (m + 1) = (k + 2 * m) + 2 by omega]
    rw [ropts_loop s hs m (i + n) k _ (by omega) (by omega) (by rw [List.length_append]; simp; omega), List.drop_drop]
  termination_by m => m
theorem roptions_is (s : ByteArray) (hs : s.size ≤ 1000000) (k : Nat) (hk : 2 * s.size + 2 ≤ k) : intrusionref11_Options.f k s = some (opts4 (s.size + 1) (bytesOf s) []) := by
  have := ropts_loop s hs s.size 0 (k - 2 * s.size - 2) [] (by omega) (by omega) (by simp)
  rw [show k - 2 * s.size - 2 + 2 * s.size + 2 = k by omega, List.drop_zero] at this
  unfold intrusionref11_Options.f
  exact this
theorem rF4at (s : ByteArray) (i : Nat) (hi : i + 4 ≤ s.size) (k : Nat) (hk : 20 ≤ k) : intrusionref06_FromBytes.f k (s.extract i (i + 4)) = some (false, 0, valBE (((bytesOf s).drop i).take 4), 0) := by
  rw [rFrom4 _ (by rw [ByteArray.size_extract]; omega) k hk, bytesOf_extract, show i + 4 - i = 4 by omega]
theorem rdecode4_is (s : ByteArray) (hs : s.size ≤ 4611686018427387904) (k : Nat) (hk : 300 ≤ k) : intrusionref11_Decode.f k s = some (dec4Of (bytesOf s)) := by
  have hl := bytesOf_length s
  obtain ⟨q, rfl⟩ : ∃ q, k = q + 3 := ⟨k - 3, by omega⟩
  unfold intrusionref11_Decode.f dec4Of
  by_cases h20 : (s.size : Int) < 20
  · rw [if_pos h20, if_pos (by omega)]
    rfl
  have hb0 : bt s 0 = (bytesOf s).getD 0 0 := bt_eq s 0
  have hr0 := bt_range s 0
  have e15 : wrap64 (Int.tmod (wrap64 (bt s 0)) 16 * 4) = (hl4 (bytesOf s) : Int) := by
    rw [w64 (n := bt s 0) (by omega) (by omega), Int.tmod_eq_emod_of_nonneg hr0.1, w64 (by omega) (by omega)]
    unfold hl4
    rw [← hb0]
    omega
  have e4 : Int.tdiv (bt s 0) 16 % 256 = (bytesOf s).getD 0 0 / 16 := by
    rw [Int.tdiv_eq_ediv_of_nonneg hr0.1, ← hb0]; omega
  rw [if_neg h20, if_pos (show (0 : Int) < (s.size : Int) by omega), if_neg (show ¬ (bytesOf s).length < 20 by omega), e15, e4]
  have hH : hl4 (bytesOf s) ≤ 60 := by unfold hl4; omega
  by_cases h4 : (bytesOf s).getD 0 0 / 16 = 4
  case neg =>
    rw [if_neg h4, if_pos (.inl h4), intrusionref11_Decode.j0, if_pos rfl]
    rfl
  rw [if_pos h4]
  by_cases h5 : hl4 (bytesOf s) < 20
  · rw [if_pos (.inr h5), intrusionref11_Decode.j0, if_pos (by simp; omega)]
    rfl
  rw [if_neg (show ¬ ((bytesOf s).getD 0 0 / 16 ≠ 4 ∨ hl4 (bytesOf s) < 20) from fun z => z.elim (fun y => y h4) h5), intrusionref11_Decode.j0, if_neg (by simp; omega)]
  have r2 := rnum4 s hs 2 2 (by omega) (by omega) (by omega) (q + 2) (by omega)
  have r4 := rnum4 s hs 4 2 (by omega) (by omega) (by omega) q (by omega)
  have r6 := rnum4 s hs 6 2 (by omega) (by omega) (by omega) (q + 1) (by omega)
  have a12 := rF4at s 12 (by omega) q (by omega)
  have a16 := rF4at s 16 (by omega) q (by omega)
  have v2 := valBE_range _ (dt_range s 2 2)
  have v6 := valBE_range _ (dt_range s 6 2)
  rw [show (((bytesOf s).drop 2).take 2).length = 2 by simp; omega] at v2
  rw [show (((bytesOf s).drop 6).take 2).length = 2 by simp; omega] at v6
  simp only [show ((2 : Nat) : Int) = 2 from rfl, show ((4 : Nat) : Int) = 4 from rfl, Nat.reduceAdd, show ((6 : Nat) : Int) = 6 from rfl] at r2 r4 r6 a12 a16
  rw [r2]
  simp only [bs]
  obtain ⟨n, hn⟩ : ∃ n : Nat, valBE (((bytesOf s).drop 2).take 2) = n := ⟨_, (Int.toNat_of_nonneg v2.1).symm⟩
  rw [hn] at v2 ⊢
  rw [Int.toNat_natCast]
  by_cases h6 : (hl4 (bytesOf s) : Int) > (s.size : Int)
  · rw [if_pos h6, if_pos (show (bytesOf s).length < hl4 (bytesOf s) ∨ ((bytesOf s).length : Int) < n from .inl (by omega)), intrusionref11_Decode.j1, if_pos rfl]
    rfl
  rw [if_neg h6]
  by_cases h7 : (n : Int) > (s.size : Int)
  · rw [if_pos (show (bytesOf s).length < hl4 (bytesOf s) ∨ ((bytesOf s).length : Int) < n from .inr (by omega)), intrusionref11_Decode.j1, if_pos (by simp; omega)]
    rfl
  rw [if_neg (show ¬ ((bytesOf s).length < hl4 (bytesOf s) ∨ ((bytesOf s).length : Int) < n) by omega), intrusionref11_Decode.j1, if_neg (by simp; omega)]
  by_cases h8 : (n : Int) < (hl4 (bytesOf s) : Int)
  · rw [if_pos h8, if_pos h8]
    rfl
  rw [if_neg h8, if_neg h8, if_pos (by omega), if_pos (by omega), Int.toNat_natCast]
  have eS : s.extract 0 (hl4 (bytesOf s)) = strOfNums ((bytesOf s).take (hl4 (bytesOf s))) := by
    rw [← str_bytes (s.extract 0 (hl4 (bytesOf s))), bytesOf_extract, List.drop_zero, Nat.sub_zero]
  rw [eS, rsum_is _ (by rw [strOfNums_size, List.length_take]; omega) (q + 1) (by rw [strOfNums_size, List.length_take]; omega)]
  simp only [bs]
  by_cases h9 : sumOf (strOfNums ((bytesOf s).take (hl4 (bytesOf s)))) = 0
  case neg =>
    rw [if_neg h9, if_pos (show sumOf (strOfNums ((bytesOf s).take (hl4 (bytesOf s)))) ≠ 0 from h9)]
    rfl
  rw [if_pos h9, if_neg (show ¬ sumOf (strOfNums ((bytesOf s).take (hl4 (bytesOf s)))) ≠ 0 from fun z => z h9), if_pos (by omega)]
  have zo : (s.extract 20 (hl4 (bytesOf s))).size = hl4 (bytesOf s) - 20 := by rw [ByteArray.size_extract]; omega
  have ho := roptions_is (s.extract 20 (hl4 (bytesOf s))) (by omega) (q + 1) (by omega)
  rw [zo, bytesOf_extract, ← List.drop_take] at ho
  rw [ho, r6]
  simp only [bs]
  generalize hx : valBE (((bytesOf s).drop 6).take 2) = x at v6 ⊢
  generalize opts4 (hl4 (bytesOf s) - 20 + 1) (((bytesOf s).take (hl4 (bytesOf s))).drop 20) [] = o
  cases ho2 : o.2 with
  | false =>
    rw [if_neg (by decide), if_pos (.inl rfl), intrusionref11_Decode.j2, if_pos rfl]
    rfl
  | true =>
    rw [if_pos rfl]
    by_cases hz : x / 32768 % 2 = 0
    case neg =>
      rw [if_pos (show (true = false ∨ x / 32768 % 2 ≠ 0) from .inr hz), intrusionref11_Decode.j2, if_pos (by rw [decide_eq_true_iff]; omega)]
      rfl
    rw [if_neg (show ¬ (true = false ∨ x / 32768 % 2 ≠ 0) from fun z => z.elim (fun y => by cases y) (fun y => y hz)), intrusionref11_Decode.j2, if_neg (by rw [decide_eq_true_iff]; omega), if_pos (by decide), if_pos (by omega), a12]
    simp only [bs]
    rw [if_pos (by decide), if_pos (by omega), a16]
    simp only [bs]
    rw [if_pos (by omega), r4]
    simp only [bs]
    rw [if_pos (by omega), if_pos (by omega), if_pos (by omega), if_pos (by omega), if_pos (by omega)]
    have e14 : (Int.tmod (wrap64 (Int.tdiv x 16384)) 2 == 1) = (x / 16384 % 2 != 0) := by
      rw [Int.tdiv_eq_ediv_of_nonneg v6.1, w64 (by omega) (by omega), Int.tmod_eq_emod_of_nonneg (by omega), Bool.eq_iff_iff, beq_iff_eq, bne_iff_ne]; omega
    have e13 : (Int.tmod (wrap64 (Int.tdiv x 8192)) 2 == 1) = (x / 8192 % 2 != 0) := by
      rw [Int.tdiv_eq_ediv_of_nonneg v6.1, w64 (by omega) (by omega), Int.tmod_eq_emod_of_nonneg (by omega), Bool.eq_iff_iff, beq_iff_eq, bne_iff_ne]; omega
    have e8 : wrap64 (Int.tmod x 8192 * 8) = 8 * (x % 8192) := by
      rw [Int.tmod_eq_emod_of_nonneg v6.1, w64 (by omega) (by omega)]; omega
    have b1 : bt s 1 = (bytesOf s).getD 1 0 := bt_eq s 1
    have b8 : bt s 8 = (bytesOf s).getD 8 0 := bt_eq s 8
    have b9 : bt s 9 = (bytesOf s).getD 9 0 := bt_eq s 9
    have q1 := bt_range s 1
    have q8 := bt_range s 8
    have q9 := bt_range s 9
    have eP : s.extract (hl4 (bytesOf s)) n = strOfNums (((bytesOf s).take n).drop (hl4 (bytesOf s))) := by
      rw [← str_bytes (s.extract (hl4 (bytesOf s)) n), bytesOf_extract, List.drop_take]
    rw [e14, e13, e8, w64 (n := bt s 1) (by omega) (by omega), w64 (n := bt s 8) (by omega) (by omega), w64 (n := bt s 9) (by omega) (by omega), b1, b8, b9, Int.toNat_natCast, Int.toNat_natCast, eP]
end Go.Proofs.Ytobioaommmgehaa.Pure


/-! ### PureIpv4Decodes -/
set_option linter.unusedVariables false
set_option linter.unusedSimpArgs false
namespace Go.Proofs.Ytobioaommmgehaa.Pure
open Go.RowKit Go.Proofs.Ytobioaommmgehaa.X Go.Proofs.YtobioaommmgehaaW.PrintWords Go.Proofs.YtobioaommmgehaaW.PrintLast Go.Proofs.YtobioaommmgehaaW.PrintMore

theorem Ipv4Decodes : intrusionlaw11_Ipv4Decodes.Pure := by
  intro s hs
  obtain ⟨K, hK⟩ : ∃ K, 1000 = K := ⟨_, rfl⟩
  refine ⟨K, ?_⟩
  unfold intrusionlaw11_Ipv4Decodes.f
  rw [awake11_is K (by omega)]
  simp only [bs]
  by_cases h7 : (s.size : Int) > 70000
  · rw [if_pos h7]
  rw [if_neg h7, decode4_is s (by omega) K (by omega), rdecode4_is s (by omega) K (by omega)]
  simp only [bs]
  rcases dec4_cases (bytesOf s) (bytesOf_range s) with ⟨e, he, hd⟩ | ⟨c, id, tt, pr, dn, mr, off, s2, d2, l, p, hd, -, -, -, -, -, -, -, hl40, -⟩
  · rw [hd]
    unfold bad4
    dsimp only
    rw [same4_self 0 0 0 0 false false 0 false 0 0 false 0 0 [] ⟨#[]⟩ (by simp) K (by simp; omega)]
    simp only [bs, if_true]
  · rw [hd]
    dsimp only
    rw [same4_self c id tt pr dn mr off false 0 s2 false 0 d2 l p (by omega) K (by omega)]
    simp only [bs, if_true]
end Go.Proofs.Ytobioaommmgehaa.Pure

