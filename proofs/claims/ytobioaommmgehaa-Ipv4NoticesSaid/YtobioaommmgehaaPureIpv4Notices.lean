/- Ipv4Notices as a plain law: a changed byte of the header, other than the first one, is noticed; the packet is as large as a machine's memory lets it be. -/
import Derived.Test.YtobioaommmgehaaXDIpv4Notices
import Derived.Test.YtobioaommmgehaaX0
import Derived.Laws.Bits128
import Derived.Laws.BitsAllLaws
import Derived.Lib.EndianBits
import Derived.Test.YtobioaommmgehaaX7
import Derived.Test.YtobioaommmgehaaX13
import Derived.Test.YtobioaommmgehaaX12
import Derived.Test.YtobioaommmgehaaX5
import Derived.Test.YtobioaommmgehaaX8
import Derived.Test.YtobioaommmgehaaX9
import Derived.Test.YtobioaommmgehaaX10
import Derived.Test.YtobioaommmgehaaX14
import Derived.Test.YtobioaommmgehaaX20
import Derived.Test.YtobioaommmgehaaX21
import Derived.Test.YtobioaommmgehaaX19
import Derived.Lib.QuoteBits
import Derived.Test.YtobioaommmgehaaX6
/-! ### Base -/
namespace Go.Proofs.Ytobioaommmgehaa.Pure
open Go.RowKit Go.Proofs.Ytobioaommmgehaa.X Go.Proofs.YtobioaommmgehaaW.PrintWords Go.Proofs.YtobioaommmgehaaW.PrintLast Go.Proofs.YtobioaommmgehaaW.PrintMore

/-- Told without 'rfl': a simp by it leaves the kernel little to compare. -/
theorem bs {α β : Type} (a : α) (f : α → Option β) : (some a).bind f = f a := by
  cases h : (some a) with
  | none => cases h
  | some b => injection h with h; subst h; rfl
theorem w64 {n : Int} (h : -9223372036854775808 ≤ n) (h' : n < 9223372036854775808) : wrap64 n = n := by unfold wrap64; omega
theorem wraps_i64' (n : Int) (h₀ : 0 ≤ n) (h₁ : n < 2 ^ 63) : IntKind.i64.wrap n = n := by rw [IntKind.wrap_i64]; omega
/-- 'x*256 | b' on int. -/
theorem or8 (x b : Int) (h0 : 0 ≤ x) (h1 : x < 9223372036854775808) (hx : x % 256 = 0) (hb0 : 0 ≤ b) (hb : b < 256) : Go.bits .or .i64 x b = x + b :=
  bits_join .i64 63 (by decide) wraps_i64' 8 x b h0 (by omega) (by omega) hb0 (by omega) (by omega)
theorem bytesOf_append (a b : ByteArray) : bytesOf (a ++ b) = bytesOf a ++ bytesOf b := by
  simp [bytesOf, ByteArray.data_append]
theorem bytesOf_extract (s : ByteArray) (i j : Nat) : bytesOf (s.extract i j) = ((bytesOf s).drop i).take (j - i) := by
  simp [bytesOf, ByteArray.data_extract, List.map_take, List.map_drop]
  try rw [List.extract_eq_take_drop]
theorem bytesOf_range (s : ByteArray) : ∀ x ∈ bytesOf s, 0 ≤ x ∧ x < 256 := by
  intro x hx
  obtain ⟨b, _, rfl⟩ := List.mem_map.mp hx
  have := b.toNat_lt
  omega
theorem bytesOf_inj {a b : ByteArray} (h : bytesOf a = bytesOf b) : a = b := by
  have h2 : a.data.toList = b.data.toList := by
    refine List.map_inj_right (f := fun (b : UInt8) => (b.toNat : Int)) ?_ |>.mp h
    intro x y hxy
    exact UInt8.toNat_inj.mp (by exact_mod_cast hxy)
  cases a; cases b
  simp at h2
  simp [h2]
theorem bytesOf_strOfNums (l : List Int) (h : ∀ x ∈ l, 0 ≤ x ∧ x < 256) : bytesOf (strOfNums l) = l := by
  induction l with
  | nil => rfl
  | cons x l ih =>
    have h1 := h x (by simp)
    have h2 := ih (fun y hy => h y (by simp [hy]))
    simp only [bytesOf, strOfNums_data, List.map_map, List.map_cons] at h2 ⊢
    refine List.cons_eq_cons.mpr ⟨?_, h2⟩
    simp only [UInt8.toNat_ofNat']
    omega
theorem bt_eq (s : ByteArray) (i : Nat) : bt s (i : Int) = (bytesOf s).getD i 0 := by
  unfold bt bytesOf
  rw [Int.toNat_natCast]
  by_cases h : i < s.size
  · have h' : i < s.data.toList.length := by rw [Array.length_toList]; exact h
    rw [dif_pos h]
    simp [List.getD_eq_getElem?_getD, List.getElem?_eq_getElem h']
    rfl
  · have h' : s.data.toList.length ≤ i := by rw [Array.length_toList]; exact Nat.not_lt.1 h
    rw [dif_neg h]
    simp [List.getD_eq_getElem?_getD, List.getElem?_eq_none h']
theorem bt_range (s : ByteArray) (i : Int) : 0 ≤ bt s i ∧ bt s i ≤ 255 := by
  unfold bt
  split
  · rename_i h
    have := (s[i.toNat]'h).toNat_lt
    omega
  · omega
theorem size_append (a b : ByteArray) : (a ++ b).size = a.size + b.size := by simp
theorem strOfNums_append (a b : List Int) : strOfNums (a ++ b) = strOfNums a ++ strOfNums b := by
  apply ByteArray.ext; simp [strOfNums, ByteArray.data_append]
theorem wf_i64 {n : Int} (h : (Lit.int .i64 n).wf = true) : -9223372036854775808 ≤ n ∧ n < 9223372036854775808 := by
  simp only [Lit.wf, Bool.and_eq_true, decide_eq_true_eq] at h
  have e1 : IntKind.i64.min = -9223372036854775808 := by decide
  have e2 : IntKind.i64.max = 9223372036854775807 := by decide
  omega
theorem wf_u64 {n : Int} (h : (Lit.int .u64 n).wf = true) : 0 ≤ n ∧ n < 18446744073709551616 := by
  simp only [Lit.wf, Bool.and_eq_true, decide_eq_true_eq] at h
  have e1 : IntKind.u64.min = 0 := by decide
  have e2 : IntKind.u64.max = 18446744073709551615 := by decide
  omega
theorem wf_u8 {n : Int} (h : (Lit.int .u8 n).wf = true) : 0 ≤ n ∧ n < 256 := by
  simp only [Lit.wf, Bool.and_eq_true, decide_eq_true_eq] at h
  have e1 : IntKind.u8.min = 0 := by decide
  have e2 : IntKind.u8.max = 255 := by decide
  omega
end Go.Proofs.Ytobioaommmgehaa.Pure


/-! ### Ip4S -/
set_option linter.unusedVariables false
set_option linter.unusedSimpArgs false
namespace Go.Proofs.Ytobioaommmgehaa.Pure
open Go.RowKit Go.Proofs.Ytobioaommmgehaa.X Go.Proofs.YtobioaommmgehaaW.PrintWords Go.Proofs.YtobioaommmgehaaW.PrintLast Go.Proofs.YtobioaommmgehaaW.PrintMore

theorem awake300 : intrusionlaw11_awake.f 300 = some true := by decide +kernel
theorem awake11_is (k : Nat) (hk : 300 ≤ k) : intrusionlaw11_awake.f k = some true := at_rounds intrusionlaw11_awake.mono hk awake300
section
variable (c id tt pr : Int) (dn mr : Bool) (off : Int) (v : Bool) (s1 s2 : Int) (w : Bool) (d1 d2 : Int) (l : List S50) (p : ByteArray)
theorem large_is : intrusionlaw11_large.f c id tt pr dn mr off v s1 s2 w d1 d2 l p = some (decide (p.size > 70000 ∨ l.length > 60)) := by
  unfold intrusionlaw11_large.f
  by_cases a : (p.size : Int) > 70000
  · rw [if_pos a, decide_eq_true (show p.size > 70000 ∨ l.length > 60 from .inl (by omega))]
  · rw [if_neg a]
    congr 1
    apply decide_eq_decide.mpr
    omega
end
end Go.Proofs.Ytobioaommmgehaa.Pure


/-! ### SumA -/
namespace Go.Proofs.Ytobioaommmgehaa.Pure
open Go.RowKit Go.Proofs.Ytobioaommmgehaa.X Go.Proofs.YtobioaommmgehaaW.PrintWords Go.Proofs.YtobioaommmgehaaW.PrintLast Go.Proofs.YtobioaommmgehaaW.PrintMore

/-- The total of the 16-bit words of a list of bytes. -/
def tot : List Int → Int
  | [] => 0
  | [a] => a * 256
  | a :: b :: r => a * 256 + b + tot r
/-- The one's complement residue, 1 to 65535, or 0 for 0. -/
def canon (t : Int) : Int := if t = 0 then 0 else (t - 1) % 65535 + 1
theorem tot_nonneg : ∀ l : List Int, (∀ x ∈ l, 0 ≤ x ∧ x < 256) → 0 ≤ tot l
  | [], _ => by simp [tot]
  | [a], h => by have := h a (by simp); simp only [tot]; omega
  | a :: b :: r, h => by
    have h1 := h a (by simp)
    have h2 := h b (by simp)
    have h3 := tot_nonneg r (fun x hx => h x (by simp [hx]))
    simp only [tot]; omega
theorem tot_append : ∀ a b : List Int, a.length % 2 = 0 → tot (a ++ b) = tot a + tot b
  | [], b, _ => by simp [tot]
  | [x], b, h => by simp at h
  | x :: y :: r, b, h => by
    have := tot_append r b (by simp at h; omega)
    simp only [tot, List.cons_append, this]; omega
theorem canon_range {t : Int} (_h : 0 ≤ t) : 0 ≤ canon t ∧ canon t ≤ 65535 := by
  unfold canon; split <;> omega
theorem canon_step {t w : Int} (ht : 0 ≤ t) (h0 : 0 ≤ w) (h1 : w ≤ 65535) : (if canon t + w > 65535 then canon t + w - 65535 else canon t + w) = canon (t + w) := by
  unfold canon; split <;> split <;> split <;> omega
theorem fold_some (x : Int) (h0 : 0 ≤ x) (h1 : x ≤ 131070) : checksum_fold.f x = some (if x > 65535 then x - 65535 else x) := by
  unfold checksum_fold.f
  split
  · rw [w64 (by omega) (by omega)]
  · rfl
theorem drop_two (l : List Int) (i : Nat) (h : i + 1 < l.length) : l.drop i = l.getD i 0 :: l.getD (i + 1) 0 :: l.drop (i + 2) := by
  rw [List.drop_eq_getElem_cons (by omega), List.drop_eq_getElem_cons (by omega)]
  simp [List.getD_eq_getElem?_getD, List.getElem?_eq_getElem (show i < l.length by omega), List.getElem?_eq_getElem h]
theorem drop_one (l : List Int) (i : Nat) (h : i + 1 = l.length) : l.drop i = [l.getD i 0] := by
  rw [List.drop_eq_getElem_cons (by omega), List.drop_of_length_le (by omega)]
  simp [List.getD_eq_getElem?_getD, List.getElem?_eq_getElem (show i < l.length by omega)]
theorem sum_loop (s : ByteArray) (hs : s.size ≤ 4611686018427387904) : ∀ (k i : Nat) (t : Int), 0 ≤ t → s.size + 2 < 2 * k + i → i ≤ s.size + 1 →
    checksum_Sum.l0 k s (canon t) i = some (65535 - canon (t + tot ((bytesOf s).drop i)))
  | 0, i, t, _, h, h2 => by omega
  | k + 1, i, t, ht, h, h2 => by
    have hlen := bytesOf_length s
    have hr := canon_range ht
    unfold checksum_Sum.l0
    by_cases h1 : (i : Int) < (s.size : Int)
    · rw [if_pos h1, if_pos (by omega), w64 (n := (i : Int) + 1) (by omega) (by omega)]
      have hb := bt_range s i
      have hb2 := bt_range s ((i : Int) + 1)
      have hm : wrap64 (wrap64 (bt s i) * 256) = bt s i * 256 := by rw [w64 (n := bt s i) (by omega) (by omega), w64 (by omega) (by omega)]
      try rw [hm]
      rw [w64 (n := (i : Int) + 2) (by omega) (by omega), show ((i : Int) + 2) = ((i + 2 : Nat) : Int) by omega]
      by_cases h3 : (i : Int) + 1 < (s.size : Int)
      · rw [if_pos h3, if_pos (by omega)]
        try rw [w64 (n := bt s ((i : Int) + 1)) (by omega) (by omega)]
        rw [or8 _ _ (by omega) (by omega) (by omega) (by omega) (by omega),
          w64 (by omega) (by omega), fold_some _ (by omega) (by omega), Option.bind_some, canon_step ht (by omega) (by omega),
          sum_loop s hs k (i + 2) _ (by omega) (by omega) (by omega), drop_two _ i (by omega), tot]
        rw [show ((i : Int) + 1) = ((i + 1 : Nat) : Int) by omega, bt_eq, bt_eq, Int.add_assoc]
      · rw [if_neg h3, w64 (by omega) (by omega), fold_some _ (by omega) (by omega), Option.bind_some, canon_step ht (by omega) (by omega),
          sum_loop s hs k (i + 2) _ (by omega) (by omega) (by omega), drop_one _ i (by omega), tot, List.drop_of_length_le (by omega), tot, bt_eq, Int.add_zero]
    · rw [if_neg h1, List.drop_of_length_le (by omega), tot, Int.add_zero, w64 (by omega) (by omega)]
/-- Sum in closed form. -/
def sumOf (s : ByteArray) : Int := 65535 - canon (tot (bytesOf s))
theorem sum_is (s : ByteArray) (hs : s.size ≤ 4611686018427387904) (k : Nat) (hk : s.size + 2 < k) : checksum_Sum.f k s = some (sumOf s) := by
  have := sum_loop s hs k 0 0 (by omega) (by omega) (by omega)
  unfold checksum_Sum.f sumOf
  simpa [canon] using this
theorem sumOf_range (s : ByteArray) : 0 ≤ sumOf s ∧ sumOf s ≤ 65535 := by
  have := canon_range (tot_nonneg _ (bytesOf_range s))
  unfold sumOf; omega
/-- Add in closed form. -/
def addOf (a b : Int) : Int := if a % 65536 + b % 65536 > 65535 then a % 65536 + b % 65536 - 65535 else a % 65536 + b % 65536
end Go.Proofs.Ytobioaommmgehaa.Pure


/-! ### Field -/
namespace Go.Proofs.Ytobioaommmgehaa.Pure
open Go.RowKit Go.Proofs.Ytobioaommmgehaa.X Go.Proofs.YtobioaommmgehaaW.PrintWords Go.Proofs.YtobioaommmgehaaW.PrintLast Go.Proofs.YtobioaommmgehaaW.PrintMore

/-- The last digits of a number to the base 256, the most significant first. -/
def beN : Nat → Int → List Int
  | 0, _ => []
  | i + 1, n => n / 256 ^ i % 256 :: beN i n
theorem beN_length : ∀ (i : Nat) (n : Int), (beN i n).length = i
  | 0, _ => rfl
  | i + 1, n => by simp [beN, beN_length i n]
theorem beN_range : ∀ (i : Nat) (n : Int), ∀ x ∈ beN i n, 0 ≤ x ∧ x < 256
  | 0, _, x, h => by simp [beN] at h
  | i + 1, n, x, h => by
    simp only [beN, List.mem_cons] at h
    rcases h with rfl | h
    · omega
    · exact beN_range i n x h
/-- The number of digits, the most significant first. -/
def valBE (l : List Int) : Int := l.foldl (fun n c => n * 256 + c) 0
theorem val_from : ∀ (l : List Int) (n : Int), l.foldl (fun n c => n * 256 + c) n = n * 256 ^ l.length + valBE l
  | [], n => by simp [valBE]
  | c :: l, n => by
    have h1 := val_from l (n * 256 + c)
    have h2 := val_from l (0 * 256 + c)
    unfold valBE
    simp only [List.foldl_cons, List.length_cons] at h1 h2 ⊢
    rw [h1, h2, Int.pow_succ]
    generalize (256 : Int) ^ l.length = p
    generalize valBE l = v
    rw [Int.add_mul, Int.zero_mul, Int.zero_add, Int.mul_comm p 256, ← Int.mul_assoc, Int.add_assoc]
theorem valBE_cons (c : Int) (l : List Int) : valBE (c :: l) = c * 256 ^ l.length + valBE l := by
  have h := val_from l (0 * 256 + c)
  unfold valBE
  simp only [List.foldl_cons]
  rw [h, Int.zero_mul, Int.zero_add]
  rfl
theorem valBE_range : ∀ l : List Int, (∀ x ∈ l, 0 ≤ x ∧ x < 256) → 0 ≤ valBE l ∧ valBE l < 256 ^ l.length
  | [], _ => by simp [valBE]
  | c :: l, h => by
    have h1 := valBE_range l (fun x hx => h x (by simp [hx]))
    have h2 := h c (by simp)
    have hp : (0 : Int) < 256 ^ l.length := Int.pow_pos (by decide)
    rw [valBE_cons, List.length_cons, Int.pow_succ]
    generalize (256 : Int) ^ l.length = p at *
    constructor
    · exact Int.add_nonneg (Int.mul_nonneg h2.1 (by omega)) h1.1
    · have : c * p ≤ 255 * p := Int.mul_le_mul_of_nonneg_right (by omega) (by omega)
      omega
theorem shr64 (n : Int) (i : Nat) (h : i ≤ 8) : shr .i64 n (8 * (i : Int)) = n / 256 ^ i := by
  unfold shr
  have e : IntKind.i64.bits = 64 := rfl
  rw [e, show (8 * (i : Int)).toNat = 8 * i by omega, Nat.min_eq_left (by omega), Int.pow_mul]
  rfl
theorem put_loop (n : Int) (size : Nat) (hs : size ≤ 7) : ∀ (m i k : Nat), i + m = size →
    field_Put.l0 (k + m + 1) n size (List.replicate m 0 ++ beN i n) size i = some (strOfNums (beN size n))
  | 0, i, k, h => by
    unfold field_Put.l0
    rw [if_neg (by omega)]
    simp only [List.replicate_zero, List.nil_append]
    rw [show i = size by omega]
  | m + 1, i, k, h => by
    rw [show k + (m + 1) + 1 = (k + m + 1) + 1 by omega]
    unfold field_Put.l0
    have hl : (List.replicate (m + 1) (0 : Int) ++ beN i n).length = size := by simp [beN_length]; omega
    rw [w64 (n := 8 * (i : Int)) (by omega) (by omega), w64 (n := (size : Int) - 1) (by omega) (by omega), w64 (n := (size : Int) - 1 - i) (by omega) (by omega), w64 (n := (i : Int) + 1) (by omega) (by omega), hl]
    rw [if_pos (by omega), if_pos (by omega), if_pos (by omega), if_pos (by omega), shr64 n i (by omega)]
    have e : (List.replicate (m + 1) (0 : Int) ++ beN i n).set ((size : Int) - 1 - i).toNat (n / 256 ^ i % 256) = List.replicate m 0 ++ beN (i + 1) n := by
      rw [show ((size : Int) - 1 - i).toNat = m by omega, List.replicate_succ', List.append_assoc, List.set_append_right _ _ (by simp)]
      simp [beN]
    rw [e, show (i : Int) + 1 = ((i + 1 : Nat) : Int) by omega]
    exact put_loop n size hs m (i + 1) k (by omega)
/-- Put in closed form. -/
def putOf (n size : Int) : ByteArray := if 1 ≤ size ∧ size ≤ 7 ∧ 0 ≤ n ∧ n < 256 ^ size.toNat then strOfNums (beN size.toNat n) else ⟨#[]⟩
theorem put_is (n size : Int) (k : Nat) (hk : 10 ≤ k) : field_Put.f k n size = some (putOf n size) := by
  obtain ⟨k, rfl⟩ : ∃ m, k = m + 1 := ⟨k - 1, by omega⟩
  unfold field_Put.f field_valid.f putOf
  by_cases h1 : 1 ≤ size
  · by_cases h7 : size ≤ 7
    · obtain ⟨z, rfl⟩ := Int.eq_ofNat_of_zero_le (show 0 ≤ size by omega)
      have hp : (0 : Int) < 256 ^ z := Int.pow_pos (by decide)
      simp only [ge_iff_le, h1, h7, if_true, decide_true, Option.bind_some, true_and, Int.toNat_natCast]
      rw [w64 (n := 8 * (z : Int)) (by omega) (by omega), shr64 n z (by omega)]
      by_cases h0 : n < 0
      · rw [if_pos h0, if_neg (show ¬ (0 ≤ n ∧ n < 256 ^ z) by omega)]
        unfold field_Put.j0
        simp
      · rw [if_neg h0, if_pos (show 0 ≤ 8 * (z : Int) by omega)]
        by_cases hb : n < 256 ^ z
        · rw [if_pos ⟨by omega, hb⟩, Int.ediv_eq_zero_of_lt (by omega) hb]
          unfold field_Put.j0
          have hl := put_loop n z (by omega) z 0 (k - z - 1) (by omega)
          rw [show k - z - 1 + z + 1 = k by omega] at hl
          simp only [bne_self_eq_false, Bool.false_eq_true, if_false]
          rw [if_pos (by omega), if_pos (by omega)]
          simpa [beN] using hl
        · have h3 : n / 256 ^ z ≠ 0 := by
            intro hz
            have := Int.lt_ediv_add_one_mul_self n hp
            rw [hz] at this
            omega
          rw [if_neg (fun h => hb h.2)]
          unfold field_Put.j0
          simp [h3]
    · have hn : ¬ (1 ≤ size ∧ size ≤ 7 ∧ 0 ≤ n ∧ n < 256 ^ size.toNat) := fun h => h7 h.2.1
      rw [if_pos (show size ≥ 1 from h1), if_neg hn]
      unfold field_Put.j0
      simp [h7]
  · have hn : ¬ (1 ≤ size ∧ size ≤ 7 ∧ 0 ≤ n ∧ n < 256 ^ size.toNat) := fun h => h1 h.1
    rw [if_neg (show ¬ size ≥ 1 from h1), if_neg hn]
    unfold field_Put.j0
    simp
theorem number_loop (l : List Int) (hl : ∀ x ∈ l, 0 ≤ x ∧ x < 256) (h7 : l.length ≤ 7) : ∀ (m i k : Nat), i + m = l.length →
    field_number.l0 (k + m + 1) (valBE (l.take i)) l l.length i = some (valBE l)
  | 0, i, k, h => by
    unfold field_number.l0
    rw [if_neg (by omega), List.take_of_length_le (by omega)]
  | m + 1, i, k, h => by
    rw [show k + (m + 1) + 1 = (k + m + 1) + 1 by omega]
    have hlt : i < l.length := by omega
    have ht : l.take (i + 1) = l.take i ++ [l[i]] := by rw [List.take_add_one]; simp [hlt]
    have e : valBE (l.take (i + 1)) = valBE (l.take i) * 256 + l[i] := by
      rw [ht]; unfold valBE; rw [List.foldl_append]; rfl
    have hr := valBE_range (l.take i) (fun x hx => hl x (List.mem_of_mem_take hx))
    have hc := hl l[i] (List.getElem_mem hlt)
    have hpow : (256 : Int) ^ (l.take i).length ≤ 281474976710656 := by
      have h6 : (l.take i).length ≤ 6 := by simp; omega
      have hn : 256 ^ (l.take i).length ≤ 281474976710656 := Nat.le_trans (Nat.pow_le_pow_right (by decide) h6) (by decide)
      have hc : ((256 ^ (l.take i).length : Nat) : Int) = (256 : Int) ^ (l.take i).length := Int.natCast_pow 256 _
      omega
    have hrd : rd l i = l[i] := by unfold rd; rw [Int.toNat_natCast, List.getD_eq_getElem?_getD, List.getElem?_eq_getElem hlt]; rfl
    unfold field_number.l0
    rw [if_pos (by omega), if_pos (by omega), if_pos (by omega), hrd, w64 (n := l[i]) (by omega) (by omega), w64 (n := valBE (l.take i) * 256) (by omega) (by omega), or8 _ _ (by omega) (by omega) (by omega) (by omega) (by omega), w64 (n := (i : Int) + 1) (by omega) (by omega), ← e,
      show (i : Int) + 1 = ((i + 1 : Nat) : Int) by omega]
    exact number_loop l hl h7 m (i + 1) k (by omega)
theorem number_is (l : List Int) (hl : ∀ x ∈ l, 0 ≤ x ∧ x < 256) (h7 : l.length ≤ 7) (k : Nat) (hk : 8 ≤ k) : field_number.f k l = some (valBE l) := by
  have h := number_loop l hl h7 l.length 0 (k - l.length - 1) (by omega)
  rw [show k - l.length - 1 + l.length + 1 = k by omega] at h
  unfold field_number.f
  simpa [valBE] using h
end Go.Proofs.Ytobioaommmgehaa.Pure


/-! ### Ip06 -/
namespace Go.Proofs.Ytobioaommmgehaa.Pure
open Go.RowKit Go.Proofs.Ytobioaommmgehaa.X Go.Proofs.YtobioaommmgehaaW.PrintWords Go.Proofs.YtobioaommmgehaaW.PrintLast Go.Proofs.YtobioaommmgehaaW.PrintMore

theorem wu64 {n : Int} (h : 0 ≤ n) (h' : n < 18446744073709551616) : IntKind.u64.wrap n = n := u64_wrap_id n h h'
theorem or8u (x b : Int) (h0 : 0 ≤ x) (h1 : x < 18446744073709551616) (hx : x % 256 = 0) (hb0 : 0 ≤ b) (hb : b < 256) : Go.bits .or .u64 x b = x + b :=
  bits_join .u64 64 (by decide) (fun n h h' => wu64 h (by omega)) 8 x b h0 (by omega) (by omega) hb0 (by omega) (by omega)
theorem shrU64 (n : Int) (i : Nat) (h : i ≤ 8) : shr .u64 n (8 * (i : Int)) = n / 256 ^ i := by
  unfold shr
  have e : IntKind.u64.bits = 64 := rfl
  rw [e, show (8 * (i : Int)).toNat = 8 * i by omega, Nat.min_eq_left (by omega), Int.pow_mul]
  rfl
theorem bt_get (s : ByteArray) (i : Nat) (h : i < (bytesOf s).length) : bt s (i : Int) = (bytesOf s)[i] := by
  rw [bt_eq, List.getD_eq_getElem?_getD, List.getElem?_eq_getElem h]
  rfl
theorem valBE_snoc (l : List Int) (c : Int) : valBE (l ++ [c]) = valBE l * 256 + c := by unfold valBE; rw [List.foldl_append]; rfl
theorem pow8 (n : Nat) (h : n ≤ 7) : (256 : Int) ^ n ≤ 72057594037927936 := by
  have hn : 256 ^ n ≤ 72057594037927936 := Nat.le_trans (Nat.pow_le_pow_right (by decide) h) (by decide)
  have hc : ((256 ^ n : Nat) : Int) = (256 : Int) ^ n := Int.natCast_pow 256 _
  omega
/-- The bytes of an address. -/
def adrB (v6 : Bool) (hi lo : Int) : List Int := if v6 = true then beN 8 hi ++ beN 8 lo else beN 4 lo
theorem adrB_range (v6 : Bool) (hi lo : Int) : ∀ x ∈ adrB v6 hi lo, 0 ≤ x ∧ x < 256 := by
  intro x hx
  unfold adrB at hx
  split at hx
  · rcases List.mem_append.mp hx with h | h <;> exact beN_range _ _ x h
  · exact beN_range _ _ x hx
theorem adrB_len (v6 : Bool) (hi lo : Int) : (adrB v6 hi lo).length = if v6 = true then 16 else 4 := by
  unfold adrB
  split <;> simp [beN_length]
theorem abytes_loop (n : Int) (z : Nat) (hz : z ≤ 8) : ∀ (m i k : Nat) (x : List Int), i + m = z → x.length ≤ i →
    address_bytes.l0 (k + m + 1) n z x z i = some (strOfNums (x ++ beN m n))
  | 0, i, k, x, h, hx => by
    unfold address_bytes.l0
    rw [if_neg (by omega)]
    simp [beN]
  | m + 1, i, k, x, h, hx => by
    rw [show k + (m + 1) + 1 = (k + m + 1) + 1 by omega]
    unfold address_bytes.l0
    rw [w64 (n := (z : Int) - 1) (by omega) (by omega), w64 (n := (z : Int) - 1 - i) (by omega) (by omega), w64 (n := 8 * ((z : Int) - 1 - i)) (by omega) (by omega), w64 (n := (i : Int) + 1) (by omega) (by omega)]
    rw [if_pos (by omega), if_pos (by omega), if_pos (by omega), show (z : Int) - 1 - i = (m : Int) by omega, shrU64 n m (by omega), show (i : Int) + 1 = ((i + 1 : Nat) : Int) by omega,
      abytes_loop n z hz m (i + 1) k _ (by omega) (by simp; omega)]
    simp [beN]
theorem abytes_is (n : Int) (z : Nat) (hz : z ≤ 8) (k : Nat) (hk : 10 ≤ k) : address_bytes.f k n z = some (strOfNums (beN z n)) := by
  have h := abytes_loop n z hz z 0 (k - z - 1) [] (by omega) (by simp)
  rw [show k - z - 1 + z + 1 = k by omega] at h
  unfold address_bytes.f
  simpa using h
theorem aBytes_is (v6 : Bool) (hi lo : Int) (k : Nat) (hk : 10 ≤ k) : address_Bytes.f k v6 hi lo = some (strOfNums (adrB v6 hi lo)) := by
  unfold address_Bytes.f adrB
  have a1 := abytes_is hi 8 (by omega) k hk
  have a2 := abytes_is lo 8 (by omega) k hk
  have a3 := abytes_is lo 4 (by omega) k hk
  rw [show ((8 : Nat) : Int) = 8 from rfl] at a1 a2
  rw [show ((4 : Nat) : Int) = 4 from rfl] at a3
  split
  · rw [a1, a2]
    simp only [bs]
    rw [if_pos (by rw [strOfNums_size, strOfNums_size, beN_length, beN_length]; omega), ← strOfNums_append]
  · rw [a3]
    simp only [bs]
/-- One byte more of a number of at most 8 bytes. -/
theorem val_step (l : List Int) (hl : ∀ x ∈ l, 0 ≤ x ∧ x < 256) (i : Nat) (h : i < l.length) (h8 : l.length ≤ 8) :
    Go.bits .or .u64 (IntKind.u64.wrap (valBE (l.take i) * 256)) l[i] = valBE (l.take (i + 1)) := by
  have ht : l.take (i + 1) = l.take i ++ [l[i]] := by rw [List.take_add_one]; simp [h]
  have hr := valBE_range (l.take i) (fun x hx => hl x (List.mem_of_mem_take hx))
  have hc := hl l[i] (List.getElem_mem h)
  have hp := pow8 (l.take i).length (by simp; omega)
  rw [ht, valBE_snoc, wu64 (by omega) (by omega), or8u _ _ (by omega) (by omega) (by omega) hc.1 hc.2]
theorem aval_loop (s : ByteArray) (h8 : s.size ≤ 8) : ∀ (m i k : Nat), i + m = s.size →
    address_value.l0 (k + m + 1) s (valBE ((bytesOf s).take i)) s.size i = some (valBE (bytesOf s))
  | 0, i, k, h => by
    have hl := bytesOf_length s
    unfold address_value.l0
    rw [if_neg (by omega), List.take_of_length_le (by omega)]
  | m + 1, i, k, h => by
    have hl := bytesOf_length s
    rw [show k + (m + 1) + 1 = (k + m + 1) + 1 by omega]
    unfold address_value.l0
    have hbr := bt_range s (i : Int)
    rw [if_pos (by omega), if_pos (by omega), if_pos (by omega)]
    try rw [wu64 (n := bt s (i : Int)) (by omega) (by omega)]
    rw [bt_get s i (by omega), val_step _ (bytesOf_range s) i (by omega) (by omega), w64 (n := (i : Int) + 1) (by omega) (by omega), show (i : Int) + 1 = ((i + 1 : Nat) : Int) by omega]
    exact aval_loop s h8 m (i + 1) k (by omega)
theorem aval_is (s : ByteArray) (h8 : s.size ≤ 8) (k : Nat) (hk : 10 ≤ k) : address_value.f k s = some (valBE (bytesOf s)) := by
  have h := aval_loop s h8 s.size 0 (k - s.size - 1) (by omega)
  rw [show k - s.size - 1 + s.size + 1 = k by omega] at h
  unfold address_value.f
  simpa [valBE] using h
theorem aFrom4 (s : ByteArray) (h : s.size = 4) (k : Nat) (hk : 10 ≤ k) : address_FromBytes.f k s = some (false, 0, valBE (bytesOf s), 0) := by
  unfold address_FromBytes.f
  rw [if_pos (by omega), aval_is s (by omega) k hk]
  simp only [bs]
end Go.Proofs.Ytobioaommmgehaa.Pure


/-! ### Ip6A -/
namespace Go.Proofs.Ytobioaommmgehaa.Pure
open Go.RowKit Go.Proofs.Ytobioaommmgehaa.X Go.Proofs.YtobioaommmgehaaW.PrintWords Go.Proofs.YtobioaommmgehaaW.PrintLast Go.Proofs.YtobioaommmgehaaW.PrintMore

theorem str_bytes (s : ByteArray) : strOfNums (bytesOf s) = s := bytesOf_inj (bytesOf_strOfNums _ (bytesOf_range s))
end Go.Proofs.Ytobioaommmgehaa.Pure


/-! ### RSum02 -/
namespace Go.Proofs.Ytobioaommmgehaa.Pure
open Go.RowKit Go.Proofs.Ytobioaommmgehaa.X Go.Proofs.YtobioaommmgehaaW.PrintWords Go.Proofs.YtobioaommmgehaaW.PrintLast Go.Proofs.YtobioaommmgehaaW.PrintMore

end Go.Proofs.Ytobioaommmgehaa.Pure


/-! ### RefPut -/
namespace Go.Proofs.Ytobioaommmgehaa.Pure
open Go.RowKit Go.Proofs.Ytobioaommmgehaa.X Go.Proofs.YtobioaommmgehaaW.PrintWords Go.Proofs.YtobioaommmgehaaW.PrintLast Go.Proofs.YtobioaommmgehaaW.PrintMore

end Go.Proofs.Ytobioaommmgehaa.Pure


/-! ### Ip6Y -/
namespace Go.Proofs.Ytobioaommmgehaa.Pure
open Go.RowKit Go.Proofs.Ytobioaommmgehaa.X Go.Proofs.YtobioaommmgehaaW.PrintWords Go.Proofs.YtobioaommmgehaaW.PrintLast Go.Proofs.YtobioaommmgehaaW.PrintMore

end Go.Proofs.Ytobioaommmgehaa.Pure


/-! ### Ip4E -/
set_option linter.unusedVariables false
set_option linter.unusedSimpArgs false
namespace Go.Proofs.Ytobioaommmgehaa.Pure
open Go.RowKit Go.Proofs.Ytobioaommmgehaa.X Go.Proofs.YtobioaommmgehaaW.PrintWords Go.Proofs.YtobioaommmgehaaW.PrintLast Go.Proofs.YtobioaommmgehaaW.PrintMore

theorem put_ok4 (n : Int) (z : Nat) (h1 : 1 ≤ z) (h7 : z ≤ 7) (h0 : 0 ≤ n) (hn : n < 256 ^ z) : putOf n z = strOfNums (beN z n) := by
  unfold putOf
  rw [if_pos ⟨by omega, by omega, h0, by rw [Int.toNat_natCast]; exact hn⟩, Int.toNat_natCast]
theorem put14 (n : Int) (h0 : 0 ≤ n) (hn : n ≤ 255) : putOf n 1 = strOfNums [n] := by
  have h := put_ok4 n 1 (by omega) (by omega) h0 (by omega)
  rw [show ((1 : Nat) : Int) = 1 from rfl] at h
  rw [h]
  simp [beN]
  congr 1
  congr 1
  omega
theorem put24 (n : Int) (h0 : 0 ≤ n) (hn : n ≤ 65535) : putOf n 2 = strOfNums (beN 2 n) := put_ok4 n 2 (by omega) (by omega) h0 (by omega)
theorem or64 : ∀ m : Fin 16, Go.bits .or .i64 64 (m.val : Int) = 64 + m.val := by decide +kernel
theorem or_first (n : Nat) (h : n ≤ 40) (h4 : n % 4 = 0) : Go.bits .or .i64 64 (wrap64 (Int.tdiv (20 + (n : Int)) 4)) = 64 + (20 + (n : Int)) / 4 := by
  have e : Int.tdiv (20 + (n : Int)) 4 = (((20 + n) / 4 : Nat) : Int) := by rw [Int.tdiv_eq_ediv_of_nonneg (by omega)]; omega
  rw [e, w64 (by omega) (by omega)]
  have := or64 ⟨(20 + n) / 4, by omega⟩
  rw [this]
  show (64 : Int) + (((20 + n) / 4 : Nat) : Int) = _
  omega
/-- The flags and the offset. -/
def flg (off : Int) (dn mr : Bool) : Int := off / 8 + (if dn = true then 16384 else 0) + (if mr = true then 8192 else 0)
section
variable (c id tt pr : Int) (dn mr : Bool) (off : Int) (v : Bool) (s1 s2 : Int) (w : Bool) (d1 d2 : Int)
/-- The bytes ahead of the checksum, and behind it. -/
def h4A (o p : ByteArray) : List Int := [64 + (20 + (o.size : Int)) / 4] ++ [c] ++ beN 2 (20 + (o.size : Int) + p.size) ++ beN 2 id ++ beN 2 (flg off dn mr) ++ [tt] ++ [pr]
def h4B (o : ByteArray) : List Int := adrB v s1 s2 ++ adrB w d1 d2 ++ bytesOf o
def e4Of (o p : ByteArray) : ByteArray := strOfNums (h4A c id tt pr dn mr off o p ++ beN 2 (sumOf (strOfNums (h4A c id tt pr dn mr off o p ++ [0, 0] ++ h4B v s1 s2 w d1 d2 o))) ++ h4B v s1 s2 w d1 d2 o ++ bytesOf p)
def okN4 : Prop := (0 ≤ c ∧ c ≤ 255) ∧ (0 ≤ tt ∧ tt ≤ 255) ∧ (0 ≤ pr ∧ pr ≤ 255) ∧ (0 ≤ id ∧ id ≤ 65535) ∧ (0 ≤ off ∧ off ≤ 65528) ∧ Int.tmod off 8 = 0
instance : Decidable (okN4 c id tt pr off) := by unfold okN4; infer_instance
def ok4 : Prop := okN4 c id tt pr off ∧ (v = false ∧ s1 = 0 ∧ s2 ≤ 4294967295) ∧ (w = false ∧ d1 = 0 ∧ d2 ≤ 4294967295)
instance : Decidable (ok4 c id tt pr off v s1 s2 w d1 d2) := by unfold ok4; infer_instance
theorem flg_range (h0 : 0 ≤ off) (h1 : off ≤ 65528) : 0 ≤ flg off dn mr ∧ flg off dn mr ≤ 65535 := by
  unfold flg
  split <;> split <;> omega
theorem z00 : (⟨#[0, 0]⟩ : ByteArray) = strOfNums [0, 0] := by decide +kernel
variable (l : List S50)
theorem j2_4 (o p : ByteArray) (ho : o.size ≤ 40) (ho4 : o.size % 4 = 0) (hp : 20 + o.size + p.size ≤ 65535) (hN : okN4 c id tt pr off) (k : Nat) (hk : 65600 ≤ k) :
    ipv4_Encode.j2 (k + 1) o (20 + (o.size : Int)) (flg off dn mr) c id tt pr dn mr off v s1 s2 w d1 d2 l p = some (e4Of c id tt pr dn mr off v s1 s2 w d1 d2 o p, 0) := by
  obtain ⟨hc, htt, hpr, hid, hoff, -⟩ := hN
  have hf := flg_range dn mr off hoff.1 hoff.2
  have a1 := adrB_len v s1 s2
  have a2 := adrB_len w d1 d2
  have a1' : (adrB v s1 s2).length ≤ 16 := by rw [a1]; split <;> omega
  have a2' : (adrB w d1 d2).length ≤ 16 := by rw [a2]; split <;> omega
  clear a1 a2
  have zs : ∀ q : List Int, (strOfNums q).size = q.length := strOfNums_size
  have P1 : field_Put.f k (64 + (20 + (o.size : Int)) / 4) 1 = some (strOfNums [64 + (20 + (o.size : Int)) / 4]) := by rw [put_is _ _ k (by omega), put14 _ (by omega) (by omega)]
  have P2 : field_Put.f k c 1 = some (strOfNums [c]) := by rw [put_is _ _ k (by omega), put14 _ hc.1 hc.2]
  have P3 : field_Put.f k (20 + (o.size : Int) + p.size) 2 = some (strOfNums (beN 2 (20 + (o.size : Int) + p.size))) := by rw [put_is _ _ k (by omega), put24 _ (by omega) (by omega)]
  have P4 : field_Put.f k id 2 = some (strOfNums (beN 2 id)) := by rw [put_is _ _ k (by omega), put24 _ hid.1 hid.2]
  have P5 : field_Put.f k (flg off dn mr) 2 = some (strOfNums (beN 2 (flg off dn mr))) := by rw [put_is _ _ k (by omega), put24 _ hf.1 hf.2]
  have P6 : field_Put.f k tt 1 = some (strOfNums [tt]) := by rw [put_is _ _ k (by omega), put14 _ htt.1 htt.2]
  have P7 : field_Put.f k pr 1 = some (strOfNums [pr]) := by rw [put_is _ _ k (by omega), put14 _ hpr.1 hpr.2]
  have hS := sumOf_range (strOfNums (h4A c id tt pr dn mr off o p ++ [0, 0] ++ h4B v s1 s2 w d1 d2 o))
  have P8 : field_Put.f k (sumOf (strOfNums (h4A c id tt pr dn mr off o p ++ [0, 0] ++ h4B v s1 s2 w d1 d2 o))) 2 = some (strOfNums (beN 2 (sumOf (strOfNums (h4A c id tt pr dn mr off o p ++ [0, 0] ++ h4B v s1 s2 w d1 d2 o))))) := by rw [put_is _ _ k (by omega), put24 _ hS.1 hS.2]
  have eA : strOfNums [64 + (20 + (o.size : Int)) / 4] ++ strOfNums [c] ++ strOfNums (beN 2 (20 + (o.size : Int) + p.size)) ++ strOfNums (beN 2 id) ++ strOfNums (beN 2 (flg off dn mr)) ++ strOfNums [tt] ++ strOfNums [pr] = strOfNums (h4A c id tt pr dn mr off o p) := by
    unfold h4A
    simp only [strOfNums_append]
  have eB : strOfNums (adrB v s1 s2) ++ strOfNums (adrB w d1 d2) ++ o = strOfNums (h4B v s1 s2 w d1 d2 o) := by
    unfold h4B
    simp only [strOfNums_append, str_bytes]
  have zA : (h4A c id tt pr dn mr off o p).length = 10 := by unfold h4A; simp [beN_length]
  have zB : (h4B v s1 s2 w d1 d2 o).length ≤ 32 + o.size := by unfold h4B; simp only [List.length_append, bytesOf_length]; omega
  rw [ipv4_Encode.j2, or_first o.size ho ho4, P1]
  simp only [bs]
  rw [P2]
  simp only [bs]
  rw [if_pos (by simp only [size_append, zs, beN_length, List.length_cons, List.length_nil]; omega), w64 (n := 20 + (o.size : Int) + p.size) (by omega) (by omega), P3]
  simp only [bs]
  rw [if_pos (by simp only [size_append, zs, beN_length, List.length_cons, List.length_nil]; omega), P4]
  simp only [bs]
  rw [if_pos (by simp only [size_append, zs, beN_length, List.length_cons, List.length_nil]; omega), P5]
  simp only [bs]
  rw [if_pos (by simp only [size_append, zs, beN_length, List.length_cons, List.length_nil]; omega), P6]
  simp only [bs]
  rw [if_pos (by simp only [size_append, zs, beN_length, List.length_cons, List.length_nil]; omega), P7]
  simp only [bs]
  rw [if_pos (by simp only [size_append, zs, beN_length, List.length_cons, List.length_nil]; omega), aBytes_is _ _ _ k (by omega), aBytes_is _ _ _ k (by omega)]
  simp only [bs]
  rw [eA, eB, z00, if_pos (by simp only [zs]; omega), if_pos (by simp only [size_append, zs]; omega), if_pos (by simp only [zs, List.length_cons, List.length_nil]; omega), if_pos (by simp only [size_append, zs, List.length_cons, List.length_nil]; omega), ← strOfNums_append, ← strOfNums_append, sum_is _ (by simp only [zs, List.length_append, List.length_cons, List.length_nil]; omega) k (by simp only [zs, List.length_append, List.length_cons, List.length_nil]; omega)]
  simp only [bs]
  rw [P8]
  simp only [bs]
  rw [if_pos (by simp only [zs, beN_length]; omega), if_pos (by simp only [size_append, zs, beN_length]; omega), if_pos (by simp only [size_append, zs, beN_length]; omega)]
  unfold e4Of
  simp only [strOfNums_append, str_bytes]
end
theorem outside_is (x m : Int) : ipv4_outside.f x m = some (!decide (0 ≤ x ∧ x ≤ m)) := by
  unfold ipv4_outside.f
  by_cases a : x < 0
  · rw [if_pos a, decide_eq_false (fun z => by omega)]; rfl
  · rw [if_neg a]
    by_cases b : x > m
    · rw [decide_eq_true b, decide_eq_false (fun z => by omega)]; rfl
    · rw [decide_eq_false b, decide_eq_true (show 0 ≤ x ∧ x ≤ m by omega)]; rfl
theorem host_is (v : Bool) (s1 s2 : Int) : ipv4_host.f v s1 s2 = some (decide (v = false ∧ s1 = 0 ∧ s2 ≤ 4294967295)) := by
  unfold ipv4_host.f address_Valid.f
  cases v with
  | true => rw [if_pos rfl]; simp
  | false =>
    rw [if_neg (by decide), if_neg (by decide)]
    by_cases a : s1 = 0
    · rw [if_pos a]
      simp [bs, a]
    · rw [if_neg a]
      simp [bs, a]
theorem ifnd {α : Type} (P : Prop) [Decidable P] (A B : α) : (if (!decide P) = true then A else B) = if P then B else A := by
  by_cases h : P
  · rw [if_pos h, if_neg (by simp [h])]
  · rw [if_neg h, if_pos (by simp [h])]
theorem ifd {α : Type} (P : Prop) [Decidable P] (A B : α) : (if decide P = true then A else B) = if P then A else B := by
  by_cases h : P
  · rw [if_pos h, if_pos (by simp [h])]
  · rw [if_neg h, if_neg (by simp [h])]
section
variable (c id tt pr : Int) (dn mr : Bool) (off : Int) (v : Bool) (s1 s2 : Int) (w : Bool) (d1 d2 : Int) (p : ByteArray)
/-- What Encode answers for a packet with no options. -/
def enc0Of : ByteArray × Int := if ok4 c id tt pr off v s1 s2 w d1 d2 then (if 20 + (p.size : Int) > 65535 then (⟨#[]⟩, 3) else (e4Of c id tt pr false false off v s1 s2 w d1 d2 ⟨#[]⟩ p, 0)) else (⟨#[]⟩, 4)
end
end Go.Proofs.Ytobioaommmgehaa.Pure


/-! ### Ip4W -/
set_option linter.unusedVariables false
set_option linter.unusedSimpArgs false
namespace Go.Proofs.Ytobioaommmgehaa.Pure
open Go.RowKit Go.Proofs.Ytobioaommmgehaa.X Go.Proofs.YtobioaommmgehaaW.PrintWords Go.Proofs.YtobioaommmgehaaW.PrintLast Go.Proofs.YtobioaommmgehaaW.PrintMore

def optB (x : S50) : List Int := x.f0 :: ((x.f1.size : Int) + 2) :: bytesOf x.f1
def optsB : List S50 → List Int
  | [] => []
  | x :: r => optB x ++ optsB r
def padN (n : Nat) : Nat := (4 - n % 4) % 4
/-- The bytes of the options, padded. -/
def wrB (l : List S50) : List Int := optsB l ++ List.replicate (padN (optsB l).length) 0
def okK (l : List S50) : Prop := ∀ x ∈ l, 2 ≤ x.f0 ∧ x.f0 ≤ 255
instance (l : List S50) : Decidable (okK l) := by unfold okK; infer_instance
theorem optB_len (x : S50) : (optB x).length = 2 + x.f1.size := by unfold optB; have := bytesOf_length x.f1; simp; omega
theorem optsB_append : ∀ a b : List S50, optsB (a ++ b) = optsB a ++ optsB b
  | [], b => rfl
  | x :: a, b => by simp only [List.cons_append, optsB, optsB_append a b, List.append_assoc]
theorem optsB_at (l : List S50) (i : Nat) (h : i < l.length) : optsB l = optsB (l.take i) ++ (optB l[i] ++ optsB (l.drop (i + 1))) := by
  have e : l = l.take i ++ (l[i] :: l.drop (i + 1)) := by rw [← List.drop_eq_getElem_cons h, List.take_append_drop]
  have e2 := congrArg optsB e
  rw [optsB_append] at e2
  exact e2
theorem optsB_take (l : List S50) (i : Nat) (h : i < l.length) : optsB (l.take (i + 1)) = optsB (l.take i) ++ optB l[i] := by
  rw [List.take_succ_eq_append_getElem h, optsB_append]
  simp [optsB]
theorem rd125 (l : List S50) (i : Nat) (h : i < l.length) : rd_T50 l (i : Int) = l[i] := by
  unfold rd_T50
  rw [Int.toNat_natCast, List.getD_eq_getElem?_getD, List.getElem?_eq_getElem h]
  rfl
theorem z0s : (⟨#[0]⟩ : ByteArray) = strOfNums [0] := by decide +kernel
theorem pad_app (b : List Int) (m : Nat) : b ++ [0] ++ List.replicate m (0 : Int) = b ++ List.replicate (m + 1) 0 := by rw [List.replicate_succ, List.append_assoc]; rfl
theorem pad_loop (hz : ∀ q : List Int, (strOfNums q).size = q.length) : ∀ (m k : Nat) (b : List Int), padN b.length = m → b.length ≤ 1000 → ipv4_written.l1 (k + m + 1) (strOfNums b) = some (strOfNums (b ++ List.replicate m 0), true)
  | 0, k, b, h, hb => by
    unfold padN at h
    rw [ipv4_written.l1, hz, if_neg (by omega)]
    simp
  | m + 1, k, b, h, hb => by
    unfold padN at h
    rw [show k + (m + 1) + 1 = (k + m + 1) + 1 by omega, ipv4_written.l1, hz, if_pos (by omega), if_pos (by omega), z0s, ← strOfNums_append,
      pad_loop hz m k (b ++ [0]) (by unfold padN; rw [List.length_append]; simp; omega) (by rw [List.length_append]; simp; omega), pad_app]
theorem written_loop (l : List S50) (hl : l.length ≤ 4611686018427387904) (hK : okK l) : ∀ (m i k : Nat), i + m = l.length → (optsB (l.take i)).length ≤ 100 →
    ipv4_written.l0 (k + m + 60) l (strOfNums (optsB (l.take i))) (i : Int) = some (if (optsB l).length > 40 then (⟨#[]⟩, false) else (strOfNums (wrB l), true))
  | 0, i, k, h, hs => by
    have zs : ∀ q : List Int, (strOfNums q).size = q.length := strOfNums_size
    rw [show k + 0 + 60 = (k + 59) + 1 by omega, ipv4_written.l0, if_neg (by omega), List.take_of_length_le (by omega), zs]
    by_cases a : (optsB l).length > 40
    · rw [if_pos (by omega), if_pos a]
    · have hp : padN (optsB l).length ≤ 3 := by unfold padN; omega
      rw [if_neg (by omega), if_neg a]
      have := pad_loop zs (padN (optsB l).length) (k + 58 - padN (optsB l).length) (optsB l) rfl (by omega)
      rw [show k + 58 - padN (optsB l).length + padN (optsB l).length + 1 = k + 59 by omega] at this
      exact this
  | m + 1, i, k, h, hs => by
    have zs : ∀ q : List Int, (strOfNums q).size = q.length := strOfNums_size
    have hlt : i < l.length := by omega
    have hk := hK l[i] (List.getElem_mem hlt)
    have hat := congrArg List.length (optsB_at l i hlt)
    rw [List.length_append, List.length_append, optB_len] at hat
    rw [show k + (m + 1) + 60 = (k + m + 60) + 1 by omega, ipv4_written.l0, if_pos (by omega), if_pos (by omega), rd125 l i hlt, zs]
    by_cases a : (l[i].f1.size : Int) > 38
    · rw [if_pos a, if_pos (by omega)]
    rw [if_neg a]
    by_cases b : ((optsB (l.take i)).length : Int) > 40
    · rw [if_pos b, if_pos (by omega)]
    rw [if_neg b, put_is _ _ _ (by omega), put14 _ (by omega) (by omega)]
    simp only [bs]
    rw [w64 (n := (l[i].f1.size : Int) + 2) (by omega) (by omega), put_is _ _ _ (by omega), put14 _ (by omega) (by omega)]
    simp only [bs]
    have ea : strOfNums (optsB (l.take i)) ++ (strOfNums [l[i].f0] ++ strOfNums [(l[i].f1.size : Int) + 2] ++ l[i].f1) = strOfNums (optsB (l.take (i + 1))) := by
      rw [optsB_take l i hlt]
      unfold optB
      rw [show l[i].f0 :: ((l[i].f1.size : Int) + 2) :: bytesOf l[i].f1 = [l[i].f0] ++ [(l[i].f1.size : Int) + 2] ++ bytesOf l[i].f1 from rfl, strOfNums_append, strOfNums_append, strOfNums_append, str_bytes]
    rw [if_pos (by rw [zs, zs]; simp), ea, w64 (n := (i : Int) + 1) (by omega) (by omega), show (i : Int) + 1 = ((i + 1 : Nat) : Int) by omega,
      written_loop l hl hK m (i + 1) k (by omega) (by rw [optsB_take l i hlt, List.length_append, optB_len]; omega)]
theorem written_is (l : List S50) (hl : l.length ≤ 4611686018427387904) (hK : okK l) (k : Nat) (hk : l.length + 60 ≤ k) :
    ipv4_written.f k l = some (if (optsB l).length > 40 then (⟨#[]⟩, false) else (strOfNums (wrB l), true)) := by
  have := written_loop l hl hK l.length 0 (k - l.length - 60) (by omega) (by simp [optsB])
  rw [show k - l.length - 60 + l.length + 60 = k by omega] at this
  unfold ipv4_written.f
  exact this
theorem bad_iff (x : S50) : badKind x = true ↔ ¬ (2 ≤ x.f0 ∧ x.f0 ≤ 255) := by
  unfold badKind
  rw [decide_eq_true_iff]
  omega
theorem contains_loop (l : List S50) (hl : l.length ≤ 4611686018427387904) : ∀ (m i k : Nat), i + m = l.length →
    ∃ j : Int, api_Option_46.l0 (k + m + 1) l (i : Int) = some j ∧ (j ≥ 0 ↔ ¬ okK (l.drop i))
  | 0, i, k, h => by
    refine ⟨-1, by rw [api_Option_46.l0, if_neg (by omega)], ?_⟩
    rw [List.drop_eq_nil_of_le (by omega)]
    simp [okK]
  | m + 1, i, k, h => by
    have hlt : i < l.length := by omega
    obtain ⟨j, hj, hj2⟩ := contains_loop l hl m (i + 1) k (by omega)
    rw [show k + (m + 1) + 1 = (k + m + 1) + 1 by omega, api_Option_46.l0, if_pos (by omega), if_pos (by omega), rd125 l i hlt, w64 (n := (i : Int) + 1) (by omega) (by omega), show (i : Int) + 1 = ((i + 1 : Nat) : Int) by omega, hj]
    by_cases b : badKind l[i] = true
    · refine ⟨i, by rw [if_pos b], ?_⟩
      constructor
      · intro _ ho
        exact (bad_iff _).mp b (ho l[i] (by rw [List.drop_eq_getElem_cons hlt]; exact List.mem_cons_self))
      · intro _; omega
    · refine ⟨j, by rw [if_neg b], ?_⟩
      rw [hj2, List.drop_eq_getElem_cons hlt]
      have hb : 2 ≤ l[i].f0 ∧ l[i].f0 ≤ 255 := Decidable.byContradiction fun z => b ((bad_iff _).mpr z)
      constructor
      · intro hn ho
        exact hn (fun x hx => ho x (List.mem_cons_of_mem _ hx))
      · intro hn ho
        exact hn (fun x hx => by
          rcases List.mem_cons.mp hx with rfl | hx
          · exact hb
          · exact ho x hx)
theorem contains_is (l : List S50) (hl : l.length ≤ 4611686018427387904) (k : Nat) (hk : l.length + 1 ≤ k) : api_Option_46.f k l = some (!decide (okK l)) := by
  obtain ⟨j, hj, hj2⟩ := contains_loop l hl l.length 0 (k - l.length - 1) (by omega)
  rw [show k - l.length - 1 + l.length + 1 = k by omega] at hj
  unfold api_Option_46.f
  rw [show ((0 : Nat) : Int) = 0 from rfl] at hj
  rw [hj]
  simp only [bs]
  rw [List.drop_zero] at hj2
  congr 1
  by_cases h : okK l
  · rw [decide_eq_true h, decide_eq_false (fun z => hj2.mp z h)]; rfl
  · rw [decide_eq_false h, decide_eq_true (hj2.mpr h)]; rfl
section
variable (c id tt pr : Int) (dn mr : Bool) (off : Int) (v : Bool) (s1 s2 : Int) (w : Bool) (d1 d2 : Int) (l : List S50) (p : ByteArray)
theorem inRange_is (hl : l.length ≤ 4611686018427387904) (k : Nat) (hk : l.length + 2 ≤ k) : ipv4_inRange.f k c id tt pr dn mr off v s1 s2 w d1 d2 l p = some (decide (ok4 c id tt pr off v s1 s2 w d1 d2 ∧ okK l)) := by
  obtain ⟨q, rfl⟩ : ∃ q, k = q + 1 := ⟨k - 1, by omega⟩
  have ho := contains_is l hl q (by omega)
  have hj : ∀ b : Bool, ipv4_inRange.j0 (q + 1) b c id tt pr dn mr off v s1 s2 w d1 d2 l p = some (!b && decide (((v = false ∧ s1 = 0 ∧ s2 ≤ 4294967295) ∧ (w = false ∧ d1 = 0 ∧ d2 ≤ 4294967295)) ∧ okK l)) := by
    intro b
    rw [ipv4_inRange.j0]
    cases b with
    | true => rw [if_pos rfl]; rfl
    | false =>
      rw [if_neg (by decide), host_is, host_is, ho]
      simp only [bs, ifd]
      by_cases a : v = false ∧ s1 = 0 ∧ s2 ≤ 4294967295
      · rw [if_pos a]
        by_cases b : w = false ∧ d1 = 0 ∧ d2 ≤ 4294967295
        · rw [if_pos b]
          congr 1
          by_cases e : okK l
          · rw [decide_eq_true e, decide_eq_true ⟨⟨a, b⟩, e⟩]; rfl
          · rw [decide_eq_false e, decide_eq_false (fun z => e z.2)]; rfl
        · rw [if_neg b, decide_eq_false (fun z => b z.1.2)]; rfl
      · rw [if_neg a, decide_eq_false (fun z => a z.1.1)]; rfl
  unfold ipv4_inRange.f
  simp only [outside_is, bs, hj, ifnd]
  by_cases h1 : 0 ≤ c ∧ c ≤ 255
  · rw [if_pos h1]
    by_cases h2 : 0 ≤ tt ∧ tt ≤ 255
    · rw [if_pos h2]
      by_cases h3 : 0 ≤ pr ∧ pr ≤ 255
      · rw [if_pos h3]
        by_cases h4 : 0 ≤ id ∧ id ≤ 65535
        · rw [if_pos h4]
          by_cases h5 : 0 ≤ off ∧ off ≤ 65528
          · rw [if_pos h5]
            by_cases h6 : Int.tmod off 8 = 0
            · rw [show (Int.tmod off 8 != 0) = false by simp [h6]]
              congr 1
              rw [Bool.not_false, Bool.true_and]
              apply decide_eq_decide.mpr
              exact ⟨fun z => ⟨⟨⟨h1, h2, h3, h4, h5, h6⟩, z.1⟩, z.2⟩, fun z => ⟨z.1.2, z.2⟩⟩
            · rw [show (Int.tmod off 8 != 0) = true by simp [h6], decide_eq_false (fun z : ok4 c id tt pr off v s1 s2 w d1 d2 ∧ okK l => h6 z.1.1.2.2.2.2.2)]; rfl
          · rw [if_neg h5, decide_eq_false (fun z : ok4 c id tt pr off v s1 s2 w d1 d2 ∧ okK l => h5 z.1.1.2.2.2.2.1)]; rfl
        · rw [if_neg h4, decide_eq_false (fun z : ok4 c id tt pr off v s1 s2 w d1 d2 ∧ okK l => h4 z.1.1.2.2.2.1)]; rfl
      · rw [if_neg h3, decide_eq_false (fun z : ok4 c id tt pr off v s1 s2 w d1 d2 ∧ okK l => h3 z.1.1.2.2.1)]; rfl
    · rw [if_neg h2, decide_eq_false (fun z : ok4 c id tt pr off v s1 s2 w d1 d2 ∧ okK l => h2 z.1.1.2.1)]; rfl
  · rw [if_neg h1, decide_eq_false (fun z : ok4 c id tt pr off v s1 s2 w d1 d2 ∧ okK l => h1 z.1.1.1)]; rfl
theorem or_nat (a b : Nat) (ha : a < 4611686018427387904) (hb : b < 4611686018427387904) (hab : a ||| b < 4611686018427387904) : Go.bits .or .i64 (a : Int) (b : Int) = ((a ||| b : Nat) : Int) := by
  show IntKind.i64.wrap ((BitVec.ofInt 64 (a : Int) ||| BitVec.ofInt 64 (b : Int)).toNat : Int) = _
  rw [BitVec.toNat_or, ofInt_u64 a (by omega), ofInt_u64 b (by omega), Go.Lib.wrap_i64_small _ (by omega)]
theorem or_dont (x : Nat) (h : x < 8192) : Go.bits .or .i64 (x : Int) 16384 = (x : Int) + 16384 := by
  have e : x ||| 16384 = x + 16384 := by
    have := Nat.two_pow_add_eq_or_of_lt (i := 14) (b := x) (by omega) 1
    rw [Nat.or_comm, show (16384 : Nat) = 2 ^ 14 * 1 from rfl, ← this]
    omega
  have := or_nat x 16384 (by omega) (by omega) (by omega)
  rw [show ((16384 : Nat) : Int) = 16384 from rfl] at this
  rw [this, e]
  omega
theorem or_more (x a : Nat) (h : x < 8192) (ha : a = 0 ∨ a = 16384) : Go.bits .or .i64 ((x + a : Nat) : Int) 8192 = ((x + a : Nat) : Int) + 8192 := by
  have e : (x + a) ||| 8192 = x + a + 8192 := by
    rcases ha with rfl | rfl
    · have := Nat.two_pow_add_eq_or_of_lt (i := 13) (b := x) (by omega) 1
      rw [Nat.add_zero, Nat.or_comm, show (8192 : Nat) = 2 ^ 13 * 1 from rfl, ← this]
      omega
    · have h2 := Nat.two_pow_add_eq_or_of_lt (i := 13) (b := x) (by omega) 2
      have h3 := Nat.two_pow_add_eq_or_of_lt (i := 13) (b := x) (by omega) 3
      have e2 : x + 16384 = 2 ^ 13 * 2 ||| x := by omega
      rw [e2, Nat.or_assoc, Nat.or_comm x 8192, ← Nat.or_assoc, show 2 ^ 13 * 2 ||| 8192 = 2 ^ 13 * 3 by decide +kernel, ← h3]
      omega
  have := or_nat (x + a) 8192 (by rcases ha with rfl | rfl <;> omega) (by omega) (by rcases ha with rfl | rfl <;> omega)
  rw [show ((8192 : Nat) : Int) = 8192 from rfl] at this
  rw [this, e]
  omega
/-- What Encode answers. -/
def enc4Of : ByteArray × Int := if ok4 c id tt pr off v s1 s2 w d1 d2 ∧ okK l then (if (optsB l).length > 40 ∨ 20 + (wrB l).length + p.size > 65535 then (⟨#[]⟩, 3) else (e4Of c id tt pr dn mr off v s1 s2 w d1 d2 (strOfNums (wrB l)) p, 0)) else (⟨#[]⟩, 4)
theorem wrB_len (h : (optsB l).length ≤ 40) : (wrB l).length ≤ 40 ∧ (wrB l).length % 4 = 0 ∧ (optsB l).length ≤ (wrB l).length := by
  unfold wrB padN
  rw [List.length_append, List.length_replicate]
  omega
theorem j1_4 (o : ByteArray) (ho : o.size ≤ 40) (ho4 : o.size % 4 = 0) (hp : 20 + o.size + p.size ≤ 65535) (hN : okN4 c id tt pr off) (k : Nat) (hk : 65600 ≤ k) (x : Int) (hx : x = off / 8 + (if dn = true then 16384 else 0)) :
    ipv4_Encode.j1 (k + 2) o (20 + (o.size : Int)) x c id tt pr dn mr off v s1 s2 w d1 d2 l p = some (e4Of c id tt pr dn mr off v s1 s2 w d1 d2 o p, 0) := by
  have hoff := hN.2.2.2.2.1
  have main := j2_4 c id tt pr dn mr off v s1 s2 w d1 d2 l o p ho ho4 hp hN k hk
  rw [ipv4_Encode.j1]
  cases hm : mr with
  | false =>
    rw [if_neg (by decide)]
    rw [hm] at main
    rw [show x = flg off dn false by rw [hx]; unfold flg; simp]
    exact main
  | true =>
    rw [if_pos rfl]
    rw [hm] at main
    have e : Go.bits .or .i64 x 8192 = flg off dn true := by
      cases dn with
      | false =>
        have := or_more (off / 8).toNat 0 (by omega) (.inl rfl)
        rw [show (((off / 8).toNat + 0 : Nat) : Int) = off / 8 by omega] at this
        rw [hx]; unfold flg; simpa using this
      | true =>
        have := or_more (off / 8).toNat 16384 (by omega) (.inr rfl)
        rw [show (((off / 8).toNat + 16384 : Nat) : Int) = off / 8 + 16384 by omega] at this
        rw [hx]; unfold flg; simpa using this
    rw [e]
    exact main
theorem encode4_is (hl : l.length ≤ 4611686018427387904) (hp : p.size ≤ 4611686018427387904) (k : Nat) (hk : l.length + 65700 ≤ k) :
    ipv4_Encode.f k c id tt pr dn mr off v s1 s2 w d1 d2 l p = some (enc4Of c id tt pr dn mr off v s1 s2 w d1 d2 l p) := by
  obtain ⟨q, rfl⟩ : ∃ q, k = q + 3 := ⟨k - 3, by omega⟩
  unfold ipv4_Encode.f enc4Of
  rw [inRange_is c id tt pr dn mr off v s1 s2 w d1 d2 l p hl _ (by omega)]
  simp only [bs, ifd]
  by_cases h : ok4 c id tt pr off v s1 s2 w d1 d2 ∧ okK l
  case neg => rw [if_neg h, if_neg h]
  rw [if_pos h, if_pos h, written_is l hl h.2 _ (by omega)]
  simp only [bs]
  by_cases a : (optsB l).length > 40
  · rw [if_pos a, if_pos (show (optsB l).length > 40 ∨ 20 + (wrB l).length + p.size > 65535 from .inl a)]
    simp only []
    rw [if_neg (by decide), ipv4_Encode.j0, if_pos rfl]
  obtain ⟨z1, z2, z3⟩ := wrB_len l (by omega)
  have zo : (strOfNums (wrB l)).size = (wrB l).length := strOfNums_size _
  have hoff := h.1.1.2.2.2.2.1
  rw [if_neg a]
  simp only []
  rw [if_pos trivial, ipv4_Encode.j0, w64 (n := 20 + ((strOfNums (wrB l)).size : Int)) (by omega) (by omega), w64 (n := 65535 - (20 + ((strOfNums (wrB l)).size : Int))) (by omega) (by omega)]
  by_cases b : 20 + (wrB l).length + p.size > 65535
  · rw [if_pos (decide_eq_true (by omega)), if_pos (show (optsB l).length > 40 ∨ 20 + (wrB l).length + p.size > 65535 from .inr b)]
  rw [if_neg (by rw [decide_eq_true_iff]; omega), if_neg (show ¬ ((optsB l).length > 40 ∨ 20 + (wrB l).length + p.size > 65535) by omega)]
  have e8 : wrap64 (Int.tdiv off 8) = off / 8 := by rw [Int.tdiv_eq_ediv_of_nonneg hoff.1, w64 (by omega) (by omega)]
  have main := fun x hx => j1_4 c id tt pr dn mr off v s1 s2 w d1 d2 l p (strOfNums (wrB l)) (by omega) (by omega) (by omega) h.1.1 q (by omega) x hx
  cases hd : dn with
  | false =>
    rw [if_neg (by decide), e8]
    rw [hd] at main
    exact main _ (by simp)
  | true =>
    rw [if_pos rfl, e8]
    rw [hd] at main
    have := or_dont (off / 8).toNat (by omega)
    rw [show ((off / 8).toNat : Int) = off / 8 by omega] at this
    rw [this]
    exact main _ (by simp)
end
end Go.Proofs.Ytobioaommmgehaa.Pure


/-! ### Reader -/
namespace Go.Proofs.Ytobioaommmgehaa.Pure
open Go.RowKit Go.Proofs.Ytobioaommmgehaa.X Go.Proofs.YtobioaommmgehaaW.PrintWords Go.Proofs.YtobioaommmgehaaW.PrintLast Go.Proofs.YtobioaommmgehaaW.PrintMore

theorem nil_size : (⟨#[]⟩ : ByteArray).size = 0 := rfl
/-- What 'next' returns, with permission. -/
theorem next_is (s : ByteArray) (i : Nat) (e n : Int) (hs : s.size ≤ 4611686018427387904) (hi : i ≤ s.size) (hn : 0 ≤ n) (hn2 : n ≤ 9223372036854775807) :
    field_Reader_next.f s (i : Int) e n true = some (if e = 0 then (if n > (s.size : Int) - i then ((⟨#[]⟩ : ByteArray), s, (i : Int), 1) else (s.extract i (i + n.toNat), s, (i : Int) + n, 0)) else ((⟨#[]⟩ : ByteArray), s, (i : Int), e)) := by
  unfold field_Reader_next.f
  by_cases h : e = 0
  · subst h
    rw [if_pos rfl, if_pos rfl, if_pos rfl, w64 (n := (s.size : Int) - i) (by omega) (by omega)]
    by_cases h2 : n > (s.size : Int) - i
    · rw [if_pos h2, if_pos h2]
    · rw [if_neg h2, if_neg h2, w64 (n := (i : Int) + n) (by omega) (by omega), w64 (n := (i : Int) + n - n) (by omega) (by omega), if_pos (by omega), if_pos (by omega), if_pos (by omega)]
      rw [show ((i : Int) + n - n).toNat = i by omega, show ((i : Int) + n).toNat = i + n.toNat by omega]
  · rw [if_neg h, if_neg h]
theorem int_is (s : ByteArray) (i n : Nat) (e : Int) (k : Nat) (hs : s.size ≤ 4611686018427387904) (hi : i ≤ s.size) (h1 : 1 ≤ n) (h7 : n ≤ 7) (hk : 8 ≤ k) :
    field_Reader_Int.f k s (i : Int) e (n : Int) = some (if e = 0 then (if s.size < i + n then (0, s, (i : Int), 1) else (valBE (bytesOf (s.extract i (i + n))), s, ((i + n : Nat) : Int), 0)) else (0, s, (i : Int), e)) := by
  unfold field_Reader_Int.f field_valid.f
  rw [if_pos (show (n : Int) ≥ 1 by omega), decide_eq_true (show (n : Int) ≤ 7 by omega)]
  simp only [bs]
  rw [next_is s i e _ hs hi (by omega) (by omega)]
  have z : field_number.f k (bytesOf (⟨#[]⟩ : ByteArray)) = some 0 := by rw [number_is _ (bytesOf_range _) (by decide) _ hk]; rfl
  by_cases h : e = 0
  · rw [if_pos h, if_pos h]
    by_cases h2 : (n : Int) > (s.size : Int) - i
    · rw [if_pos h2, if_pos (by omega)]
      simp only [bs, z, nil_size]
      rfl
    · rw [if_neg h2, if_neg (by omega)]
      have z2 : (s.extract i (i + n)).size = n := by simp; omega
      have hb := bytesOf_length (s.extract i (i + n))
      simp only [bs, Int.toNat_natCast]
      rw [if_pos (by omega), number_is _ (bytesOf_range _) (by omega) _ hk]
      simp only [bs]
      rw [show (i : Int) + (n : Int) = ((i + n : Nat) : Int) by omega]
  · rw [if_neg h, if_neg h]
    simp only [bs, z, nil_size]
    rfl
end Go.Proofs.Ytobioaommmgehaa.Pure


/-! ### Ip4T -/
set_option linter.unusedVariables false
set_option linter.unusedSimpArgs false
namespace Go.Proofs.Ytobioaommmgehaa.Pure
open Go.RowKit Go.Proofs.Ytobioaommmgehaa.X Go.Proofs.YtobioaommmgehaaW.PrintWords Go.Proofs.YtobioaommmgehaaW.PrintLast Go.Proofs.YtobioaommmgehaaW.PrintMore

theorem nat_and_pow (n i : Nat) : n &&& 2 ^ i = n / 2 ^ i % 2 * 2 ^ i := by
  apply Nat.eq_of_testBit_eq
  intro j
  rw [Nat.testBit_and, Nat.testBit_two_pow, Nat.testBit_mul_two_pow]
  by_cases h : i = j
  · subst h
    rw [decide_eq_true rfl, Bool.and_true, Nat.sub_self, decide_eq_true (Nat.le_refl i), Bool.true_and, Nat.testBit_eq_decide_div_mod_eq, Nat.testBit_eq_decide_div_mod_eq]
    apply decide_eq_decide.mpr
    rw [Nat.pow_zero, Nat.div_one]
    omega
  · rw [decide_eq_false h, Bool.and_false]
    by_cases hj : i ≤ j
    · have h2 : 2 ^ 1 ≤ 2 ^ (j - i) := Nat.pow_le_pow_right (by omega) (by omega)
      rw [decide_eq_true hj, Bool.true_and, Nat.testBit_eq_decide_div_mod_eq, Nat.div_eq_of_lt (by omega)]
      rfl
    · rw [decide_eq_false hj, Bool.false_and]
theorem and_pow (x : Int) (h0 : 0 ≤ x) (h1 : x < 9223372036854775807) (i : Nat) (hi : i < 62) : Go.bits .and .i64 x ((2 ^ i : Nat) : Int) = x / ((2 ^ i : Nat) : Int) % 2 * ((2 ^ i : Nat) : Int) := by
  obtain ⟨n, rfl⟩ := Int.eq_ofNat_of_zero_le h0
  have hp : 2 ^ i < 2 ^ 62 := Nat.pow_lt_pow_right (by omega) hi
  show IntKind.i64.wrap ((BitVec.ofInt 64 (n : Int) &&& BitVec.ofInt 64 ((2 ^ i : Nat) : Int)).toNat : Int) = _
  rw [BitVec.toNat_and, ofInt_u64 n (by omega), ofInt_u64 (2 ^ i) (by omega), nat_and_pow]
  have hm : n / 2 ^ i % 2 * 2 ^ i ≤ 1 * 2 ^ i := Nat.mul_le_mul_right _ (by omega)
  rw [Go.Lib.wrap_i64_small _ (by omega)]
  push_cast
  rfl
theorem and15 (x : Int) (h0 : 0 ≤ x) (h1 : x < 65536) : Go.bits .and .i64 x 32768 = x / 32768 % 2 * 32768 := and_pow x h0 (by omega) 15 (by omega)
theorem and14 (x : Int) (h0 : 0 ≤ x) (h1 : x < 65536) : Go.bits .and .i64 x 16384 = x / 16384 % 2 * 16384 := and_pow x h0 (by omega) 14 (by omega)
theorem and13 (x : Int) (h0 : 0 ≤ x) (h1 : x < 65536) : Go.bits .and .i64 x 8192 = x / 8192 % 2 * 8192 := and_pow x h0 (by omega) 13 (by omega)
theorem and8191 (x : Int) (h0 : 0 ≤ x) (h1 : x < 65536) : Go.bits .and .i64 x 8191 = x % 8192 :=
  bits_mask .i64 63 (by decide) wraps_i64' 13 (by omega) x h0 (by omega)
theorem and15u : ∀ x : Fin 256, Go.bits .and .u8 (x.val : Int) 15 = (x.val : Int) % 16 := by decide +kernel
theorem take1_4 (L : List Int) (i : Nat) (h : i < L.length) : valBE ((L.drop i).take 1) = L.getD i 0 := by
  have e : (L.drop i).take 1 = [L[i]] := by rw [List.drop_eq_getElem_cons h]; rfl
  rw [e, List.getD_eq_getElem?_getD, List.getElem?_eq_getElem h]
  simp [valBE]
theorem rint4 (s : ByteArray) (i z : Nat) (k : Nat) (hs : s.size ≤ 4611686018427387904) (hi : i + z ≤ s.size) (h1 : 1 ≤ z) (h7 : z ≤ 7) (hk : 8 ≤ k) :
    field_Reader_Int.f k s (i : Int) 0 (z : Int) = some (valBE (((bytesOf s).drop i).take z), s, ((i + z : Nat) : Int), 0) := by
  rw [int_is s i z 0 k hs (by omega) h1 h7 hk, if_pos rfl, if_neg (by omega), bytesOf_extract, show i + z - i = z by omega]
theorem rtake4 (s : ByteArray) (i z : Nat) (hs : s.size ≤ 4611686018427387904) (hi : i + z ≤ s.size) :
    field_Reader_Take.f s (i : Int) 0 (z : Int) = some (s.extract i (i + z), s, ((i + z : Nat) : Int), 0) := by
  unfold field_Reader_Take.f
  rw [decide_eq_true (show (z : Int) ≥ 0 by omega), next_is s i 0 _ hs (by omega) (by omega) (by omega), if_pos rfl, if_neg (by omega)]
  simp only [bs, Int.toNat_natCast]
  rw [show (i : Int) + (z : Int) = ((i + z : Nat) : Int) by omega]
theorem aF4 (s : ByteArray) (i : Nat) (hi : i + 4 ≤ s.size) (k : Nat) (hk : 10 ≤ k) : address_FromBytes.f k (s.extract i (i + 4)) = some (false, 0, valBE (((bytesOf s).drop i).take 4), 0) := by
  rw [aFrom4 _ (by rw [ByteArray.size_extract]; omega) k hk, bytesOf_extract, show i + 4 - i = 4 by omega]
theorem dt_range (s : ByteArray) (i z : Nat) : ∀ x ∈ ((bytesOf s).drop i).take z, 0 ≤ x ∧ x < 256 := fun x hx => bytesOf_range s x (List.mem_of_mem_drop (List.mem_of_mem_take hx))
/-- The options of a header; false: they are malformed. -/
def opts4 : Nat → List Int → List S50 → List S50 × Bool
  | 0, _, _ => ([], false)
  | m + 1, b, l =>
    if b.length = 0 ∨ b.getD 0 0 = 0 then (l, true)
    else if b.getD 0 0 = 1 then opts4 m (b.drop 1) l
    else if b.length = 1 then ([], false)
    else if b.getD 1 0 < 2 ∨ (b.length : Int) < b.getD 1 0 then ([], false)
    else opts4 m (b.drop (b.getD 1 0).toNat) (l ++ [(⟨b.getD 0 0, strOfNums ((b.take (b.getD 1 0).toNat).drop 2)⟩ : S50)])
theorem getD_drop4 (b : List Int) (i j : Nat) : (b.drop i).getD j 0 = b.getD (i + j) 0 := by
  rw [List.getD_eq_getElem?_getD, List.getD_eq_getElem?_getD, List.getElem?_drop]
theorem rd_nat (b : List Int) (i : Nat) : rd b (i : Int) = b.getD i 0 := by
  unfold rd
  rw [Int.toNat_natCast]
theorem opts_loop (b : List Int) (hb : b.length ≤ 1000000) (hr : ∀ x ∈ b, 0 ≤ x ∧ x < 256) : ∀ (m i k : Nat) (l : List S50), b.length ≤ i + m → i ≤ b.length → l.length ≤ i →
    ipv4_options.l0 (k + m + 1) b l (i : Int) = some (opts4 (m + 1) (b.drop i) l)
  | m, i, k, l, hm, hi, hl => by
    have hg : ∀ j, 0 ≤ b.getD j 0 ∧ b.getD j 0 < 256 := fun j => by
      rw [List.getD_eq_getElem?_getD]
      cases h : b[j]? with
      | none => simp
      | some v => exact hr v (List.mem_of_getElem? h)
    rw [ipv4_options.l0, opts4, List.length_drop, getD_drop4, getD_drop4, Nat.add_zero]
    by_cases h : i = b.length
    · rw [if_neg (by omega), if_pos (.inl (by omega))]
    rw [if_pos (by omega), if_pos (by omega), rd_nat]
    by_cases h0 : b.getD i 0 = 0
    · rw [if_pos h0, if_pos (.inr h0)]
    rw [if_neg h0, if_neg (show ¬ (b.length - i = 0 ∨ b.getD i 0 = 0) from fun z => z.elim (fun y => by omega) h0)]
    obtain ⟨m, rfl⟩ : ∃ q, m = q + 1 := ⟨m - 1, by omega⟩
    rw [w64 (n := (i : Int) + 1) (by omega) (by omega)]
    by_cases h1 : b.getD i 0 = 1
    · rw [if_pos h1, if_pos h1, show (i : Int) + 1 = ((i + 1 : Nat) : Int) by omega, show k + (m + 1) = k + m + 1 by omega, opts_loop b hb hr m (i + 1) k l (by omega) (by omega) (by omega), List.drop_drop]
    rw [if_neg h1, if_neg h1]
    by_cases h2 : i + 1 = b.length
    · rw [if_pos (by omega), if_pos (by omega)]
    have hv := hg (i + 1)
    rw [if_neg (by omega), if_pos (by omega), if_pos (by omega), if_neg (show ¬ (b.length - i = 1) by omega), show (i : Int) + 1 = ((i + 1 : Nat) : Int) by omega, rd_nat]
    generalize hw : b.getD (i + 1) 0 = v at hv ⊢
    rw [w64 (n := v) (by omega) (by omega), w64 (n := (i : Int) + v) (by omega) (by omega), w64 (n := (i : Int) + 2) (by omega) (by omega)]
    by_cases h3 : v < 2
    · rw [if_pos (by omega), if_pos (.inl h3)]
    rw [if_neg (by omega)]
    by_cases h4 : (i : Int) + v > (b.length : Int)
    · rw [if_pos h4, if_pos (.inr (by omega))]
    rw [if_neg h4, if_neg (show ¬ (v < 2 ∨ ((b.length - i : Nat) : Int) < v) from fun z => z.elim h3 (fun y => by omega)), if_pos (by omega), if_pos (by omega), if_pos (by omega), if_pos (by omega),
      w64 (n := b.getD i 0) (by have := hg i; omega) (by have := hg i; omega)]
    obtain ⟨n, rfl⟩ : ∃ n : Nat, v = n := ⟨v.toNat, by omega⟩
    rw [show (i : Int) + (n : Int) = ((i + n : Nat) : Int) by omega, show (i : Int) + 2 = ((i + 2 : Nat) : Int) by omega, Int.toNat_natCast, Int.toNat_natCast, Int.toNat_natCast, show k + (m + 1) = (k + m) + 1 by omega]
    obtain ⟨d, hd⟩ : ∃ d, m = d + (n - 1) := ⟨m - (n - 1), by omega⟩
    have e1 : (b.take (i + n)).drop (i + 2) = ((b.drop i).take n).drop 2 := by
      rw [List.drop_take, List.drop_take, List.drop_drop, show i + n - (i + 2) = n - 2 by omega]
    rw [e1, opts_loop b hb hr m (i + n) k _ (by omega) (by omega) (by rw [List.length_append]; simp; omega), List.drop_drop]
  termination_by m => m
theorem options_is (s : ByteArray) (hs : s.size ≤ 1000000) (k : Nat) : ipv4_options.f (k + s.size + 1) s = some (opts4 (s.size + 1) (bytesOf s) []) := by
  have hl := bytesOf_length s
  unfold ipv4_options.f
  rw [if_pos (by omega)]
  have := opts_loop (bytesOf s) (by omega) (bytesOf_range s) s.size 0 k [] (by omega) (by omega) (by simp)
  rw [List.drop_zero] at this
  exact this
abbrev P4 := Int × Int × Int × Int × Bool × Bool × Int × Bool × Int × Int × Bool × Int × Int × (List (S50)) × ByteArray × Int
def bad4 (e : Int) : P4 := (0, 0, 0, 0, false, false, 0, false, 0, 0, false, 0, 0, ([] : List (S50)), (⟨#[]⟩ : ByteArray), e)
/-- The length of the header. -/
def hl4 (L : List Int) : Nat := 4 * (L.getD 0 0 % 16).toNat
/-- What Decode answers. -/
def dec4Of (L : List Int) : P4 :=
  if L.length < 20 then bad4 1
  else if L.getD 0 0 / 16 ≠ 4 ∨ hl4 L < 20 then bad4 2
  else if L.length < hl4 L ∨ (L.length : Int) < valBE ((L.drop 2).take 2) then bad4 1
  else if valBE ((L.drop 2).take 2) < (hl4 L : Int) then bad4 2
  else if sumOf (strOfNums (L.take (hl4 L))) ≠ 0 then bad4 8
  else if (opts4 (hl4 L - 20 + 1) ((L.take (hl4 L)).drop 20) []).2 = false ∨ valBE ((L.drop 6).take 2) / 32768 % 2 ≠ 0 then bad4 2
  else (L.getD 1 0, valBE ((L.drop 4).take 2), L.getD 8 0, L.getD 9 0, (valBE ((L.drop 6).take 2) / 16384 % 2 != 0), (valBE ((L.drop 6).take 2) / 8192 % 2 != 0), 8 * (valBE ((L.drop 6).take 2) % 8192),
    false, 0, valBE ((L.drop 12).take 4), false, 0, valBE ((L.drop 16).take 4), (opts4 (hl4 L - 20 + 1) ((L.take (hl4 L)).drop 20) []).1, strOfNums ((L.take (valBE ((L.drop 2).take 2)).toNat).drop (hl4 L)), 0)
theorem decode4_is (s : ByteArray) (hs : s.size ≤ 4611686018427387904) (k : Nat) (hk : 200 ≤ k) : ipv4_Decode.f k s = some (dec4Of (bytesOf s)) := by
  have hl := bytesOf_length s
  obtain ⟨q, rfl⟩ : ∃ q, k = q + 2 := ⟨k - 2, by omega⟩
  unfold ipv4_Decode.f dec4Of
  by_cases h20 : (s.size : Int) < 20
  · rw [if_pos h20, if_pos (by omega)]
    rfl
  have hb0 : bt s 0 = (bytesOf s).getD 0 0 := bt_eq s 0
  have hr0 := bt_range s 0
  have e15 : wrap64 (4 * wrap64 (Go.bits .and .u8 (bt s 0) 15)) = (hl4 (bytesOf s) : Int) := by
    have := and15u ⟨(bt s 0).toNat, by omega⟩
    rw [show (((⟨(bt s 0).toNat, by omega⟩ : Fin 256).val : Nat) : Int) = bt s 0 from by show (((bt s 0).toNat : Nat) : Int) = _; omega] at this
    rw [this, w64 (n := bt s 0 % 16) (by omega) (by omega), w64 (by omega) (by omega)]
    unfold hl4
    rw [← hb0]
    omega
  rw [if_neg h20, if_pos (show (0 : Int) < (s.size : Int) by omega), if_neg (show ¬ (bytesOf s).length < 20 by omega), e15, hb0]
  have hH : hl4 (bytesOf s) ≤ 60 := by unfold hl4; omega
  by_cases h4 : (bytesOf s).getD 0 0 / 16 = 4
  case neg =>
    rw [if_neg h4, if_pos (.inl h4), ipv4_Decode.j0, if_pos rfl]
    rfl
  rw [if_pos h4]
  by_cases h5 : hl4 (bytesOf s) < 20
  · rw [if_pos (.inr h5), ipv4_Decode.j0, if_pos (by simp; omega)]
    rfl
  rw [if_neg (show ¬ ((bytesOf s).getD 0 0 / 16 ≠ 4 ∨ hl4 (bytesOf s) < 20) from fun z => z.elim (fun y => y h4) h5), ipv4_Decode.j0, if_neg (by simp; omega)]
  have r0 := rint4 s 0 1 (q + 1) hs (by omega) (by omega) (by omega) (by omega)
  have r1 := rint4 s 1 1 (q + 1) hs (by omega) (by omega) (by omega) (by omega)
  have r2 := rint4 s 2 2 (q + 1) hs (by omega) (by omega) (by omega) (by omega)
  have r4 := rint4 s 4 2 (q + 1) hs (by omega) (by omega) (by omega) (by omega)
  have r6 := rint4 s 6 2 (q + 1) hs (by omega) (by omega) (by omega) (by omega)
  have r8 := rint4 s 8 1 (q + 1) hs (by omega) (by omega) (by omega) (by omega)
  have r9 := rint4 s 9 1 (q + 1) hs (by omega) (by omega) (by omega) (by omega)
  have r10 := rint4 s 10 2 (q + 1) hs (by omega) (by omega) (by omega) (by omega)
  have t12 := rtake4 s 12 4 hs (by omega)
  have t16 := rtake4 s 16 4 hs (by omega)
  have a12 := aF4 s 12 (by omega) q (by omega)
  have a16 := aF4 s 16 (by omega) q (by omega)
  have v2 := valBE_range _ (dt_range s 2 2)
  have v6 := valBE_range _ (dt_range s 6 2)
  rw [show (((bytesOf s).drop 2).take 2).length = 2 by simp; omega] at v2
  rw [show (((bytesOf s).drop 6).take 2).length = 2 by simp; omega] at v6
  rw [take1_4 _ _ (by omega)] at r0 r1 r8 r9
  simp only [show ((0 : Nat) : Int) = 0 from rfl, show ((1 : Nat) : Int) = 1 from rfl, show ((2 : Nat) : Int) = 2 from rfl, show ((4 : Nat) : Int) = 4 from rfl, Nat.reduceAdd, show ((6 : Nat) : Int) = 6 from rfl, show ((8 : Nat) : Int) = 8 from rfl, show ((9 : Nat) : Int) = 9 from rfl, show ((10 : Nat) : Int) = 10 from rfl, show ((12 : Nat) : Int) = 12 from rfl, show ((16 : Nat) : Int) = 16 from rfl] at r0 r1 r2 r4 r6 r8 r9 r10 t12 t16 a12 a16
  simp only [field_NewReader.f, bs, r0, r1, r2, r4, r6, r8, r9, r10]
  obtain ⟨n, hn⟩ : ∃ n : Nat, valBE (((bytesOf s).drop 2).take 2) = n := ⟨_, (Int.toNat_of_nonneg v2.1).symm⟩
  rw [hn] at v2 ⊢
  rw [Int.toNat_natCast]
  generalize hx : valBE (((bytesOf s).drop 6).take 2) = x at v6 ⊢
  by_cases h6 : (hl4 (bytesOf s) : Int) > (s.size : Int)
  · rw [if_pos h6, if_pos (.inl (by omega)), ipv4_Decode.j1, if_pos rfl]
    rfl
  rw [if_neg h6]
  by_cases h7 : (n : Int) > (s.size : Int)
  · rw [if_pos (show (bytesOf s).length < hl4 (bytesOf s) ∨ ((bytesOf s).length : Int) < n from .inr (by omega)), ipv4_Decode.j1, if_pos (by simp; omega)]
    rfl
  rw [if_neg (show ¬ ((bytesOf s).length < hl4 (bytesOf s) ∨ ((bytesOf s).length : Int) < n) by omega), ipv4_Decode.j1, if_neg (by simp; omega)]
  by_cases h8 : (n : Int) < (hl4 (bytesOf s) : Int)
  · rw [if_pos h8, if_pos h8]
    rfl
  rw [if_neg h8, if_neg h8, if_pos (by omega), if_pos (by omega), Int.toNat_natCast]
  have eS : s.extract 0 (hl4 (bytesOf s)) = strOfNums ((bytesOf s).take (hl4 (bytesOf s))) := by
    rw [← str_bytes (s.extract 0 (hl4 (bytesOf s))), bytesOf_extract, List.drop_zero, Nat.sub_zero]
  rw [eS, sum_is _ (by rw [strOfNums_size, List.length_take]; omega) q (by rw [strOfNums_size, List.length_take]; omega)]
  simp only [bs]
  by_cases h9 : sumOf (strOfNums ((bytesOf s).take (hl4 (bytesOf s)))) = 0
  case neg =>
    rw [if_neg h9, if_pos (show sumOf (strOfNums ((bytesOf s).take (hl4 (bytesOf s)))) ≠ 0 from h9)]
    rfl
  rw [if_pos h9, if_neg (show ¬ sumOf (strOfNums ((bytesOf s).take (hl4 (bytesOf s)))) ≠ 0 from fun z => z h9)]
  simp only [t12, a12, t16, a16, bs]
  rw [if_pos (by omega)]
  have zo : (s.extract 20 (hl4 (bytesOf s))).size = hl4 (bytesOf s) - 20 := by rw [ByteArray.size_extract]; omega
  have ho := options_is (s.extract 20 (hl4 (bytesOf s))) (by omega) (q - (hl4 (bytesOf s) - 20) - 1)
  rw [zo, show q - (hl4 (bytesOf s) - 20) - 1 + (hl4 (bytesOf s) - 20) + 1 = q by omega, bytesOf_extract, ← List.drop_take] at ho
  rw [ho]
  simp only [bs]
  generalize opts4 (hl4 (bytesOf s) - 20 + 1) (((bytesOf s).take (hl4 (bytesOf s))).drop 20) [] = o
  cases ho2 : o.2 with
  | false =>
    rw [if_neg (by decide), if_pos (.inl rfl)]
    rfl
  | true =>
    rw [if_pos rfl, and15 x v6.1 (by omega), and14 x v6.1 (by omega), and13 x v6.1 (by omega), and8191 x v6.1 (by omega)]
    by_cases hz : x / 32768 % 2 = 0
    case neg =>
      rw [if_neg (by omega), if_pos (.inr hz)]
      rfl
    rw [if_pos (by omega), if_neg (show ¬ (true = false ∨ x / 32768 % 2 ≠ 0) from fun z => z.elim (fun y => by cases y) (fun y => y hz)), if_pos (by omega), if_pos (by omega), w64 (n := 8 * (x % 8192)) (by omega) (by omega)]
    have e14 : (x / 16384 % 2 * 16384 != 0) = (x / 16384 % 2 != 0) := by
      rw [Bool.eq_iff_iff, bne_iff_ne, bne_iff_ne]; omega
    have e13 : (x / 8192 % 2 * 8192 != 0) = (x / 8192 % 2 != 0) := by
      rw [Bool.eq_iff_iff, bne_iff_ne, bne_iff_ne]; omega
    have eP : s.extract (hl4 (bytesOf s)) n = strOfNums (((bytesOf s).take n).drop (hl4 (bytesOf s))) := by
      rw [← str_bytes (s.extract (hl4 (bytesOf s)) n), bytesOf_extract, List.drop_take]
    rw [e14, e13, Int.toNat_natCast, eP]
end Go.Proofs.Ytobioaommmgehaa.Pure


/-! ### Ip4R -/
set_option linter.unusedVariables false
set_option linter.unusedSimpArgs false
namespace Go.Proofs.Ytobioaommmgehaa.Pure
open Go.RowKit Go.Proofs.Ytobioaommmgehaa.X Go.Proofs.YtobioaommmgehaaW.PrintWords Go.Proofs.YtobioaommmgehaaW.PrintLast Go.Proofs.YtobioaommmgehaaW.PrintMore

theorem tot_two4 (n : Int) (h0 : 0 ≤ n) (h1 : n < 65536) : tot (beN 2 n) = n := by
  show n / 256 ^ 1 % 256 * 256 + n / 256 ^ 0 % 256 + 0 = n
  omega
theorem sum_zero4 (A B : List Int) (hl : A.length % 2 = 0) (hA : ∀ x ∈ A, 0 ≤ x ∧ x < 256) (hB : ∀ x ∈ B, 0 ≤ x ∧ x < 256) :
    sumOf (strOfNums (A ++ beN 2 (sumOf (strOfNums (A ++ [0, 0] ++ B))) ++ B)) = 0 := by
  have hS := sumOf_range (strOfNums (A ++ [0, 0] ++ B))
  have r : ∀ m : List Int, (∀ x ∈ m, 0 ≤ x ∧ x < 256) → ∀ x ∈ A ++ m ++ B, 0 ≤ x ∧ x < 256 := by
    intro m hm x hx
    simp only [List.mem_append] at hx
    rcases hx with (hx | hx) | hx
    · exact hA x hx
    · exact hm x hx
    · exact hB x hx
  have rz := r [0, 0] (by intro x hx; simp at hx; omega)
  have rs := r (beN 2 (sumOf (strOfNums (A ++ [0, 0] ++ B)))) (beN_range _ _)
  have p : ∀ m : List Int, m.length = 2 → tot (A ++ m ++ B) = tot A + tot m + tot B := by
    intro m hm
    rw [tot_append _ _ (by simp [hm]; omega), tot_append _ _ hl]
  have h0 := tot_nonneg _ rz
  have ec : sumOf (strOfNums (A ++ [0, 0] ++ B)) = 65535 - canon (tot (A ++ [0, 0] ++ B)) := by
    unfold sumOf
    rw [bytesOf_strOfNums _ rz]
  have e1 : tot (A ++ beN 2 (sumOf (strOfNums (A ++ [0, 0] ++ B))) ++ B) = tot (A ++ [0, 0] ++ B) + sumOf (strOfNums (A ++ [0, 0] ++ B)) := by
    rw [p _ (beN_length _ _), p [0, 0] rfl, tot_two4 _ hS.1 (by omega)]
    show _ = tot A + (0 * 256 + 0 + 0) + tot B + _
    omega
  generalize hs : sumOf (strOfNums (A ++ [0, 0] ++ B)) = S at *
  unfold sumOf
  rw [bytesOf_strOfNums _ rs, e1, ec]
  unfold canon
  generalize tot (A ++ [0, 0] ++ B) = t at h0
  by_cases hT : t = 0
  · rw [if_pos hT, hT]; decide
  · rw [if_neg hT, if_neg (by omega)]; omega
section
variable (c id tt pr : Int) (dn mr : Bool) (off : Int) (s2 d2 : Int)
theorem h4A_range (hN : okN4 c id tt pr off) (o p : ByteArray) (ho : o.size ≤ 40) : ∀ x ∈ h4A c id tt pr dn mr off o p, 0 ≤ x ∧ x < 256 := by
  obtain ⟨hc, htt, hpr, -, -, -⟩ := hN
  intro x hx
  unfold h4A at hx
  simp only [List.mem_append, List.mem_singleton] at hx
  rcases hx with (((((hx | hx) | hx) | hx) | hx) | hx) | hx
  · omega
  · omega
  · exact beN_range _ _ x hx
  · exact beN_range _ _ x hx
  · exact beN_range _ _ x hx
  · omega
  · omega
theorem h4B_range (v : Bool) (s1 s2 : Int) (w : Bool) (d1 d2 : Int) (o : ByteArray) : ∀ x ∈ h4B v s1 s2 w d1 d2 o, 0 ≤ x ∧ x < 256 := by
  intro x hx
  unfold h4B at hx
  simp only [List.mem_append] at hx
  rcases hx with (hx | hx) | hx
  · exact adrB_range _ _ _ x hx
  · exact adrB_range _ _ _ x hx
  · exact bytesOf_range _ x hx
theorem e4_bytes (hN : okN4 c id tt pr off) (o p : ByteArray) (ho : o.size ≤ 40) (v : Bool) (s1 s2 : Int) (w : Bool) (d1 d2 : Int) :
    bytesOf (e4Of c id tt pr dn mr off v s1 s2 w d1 d2 o p) = h4A c id tt pr dn mr off o p ++ beN 2 (sumOf (strOfNums (h4A c id tt pr dn mr off o p ++ [0, 0] ++ h4B v s1 s2 w d1 d2 o))) ++ h4B v s1 s2 w d1 d2 o ++ bytesOf p := by
  unfold e4Of
  apply bytesOf_strOfNums
  intro x hx
  simp only [List.mem_append] at hx
  rcases hx with ((hx | hx) | hx) | hx
  · exact h4A_range c id tt pr dn mr off hN o p ho x hx
  · exact beN_range _ _ x hx
  · exact h4B_range _ _ _ _ _ _ _ x hx
  · exact bytesOf_range _ x hx
end
end Go.Proofs.Ytobioaommmgehaa.Pure


/-! ### Ip4O -/
set_option linter.unusedVariables false
set_option linter.unusedSimpArgs false
namespace Go.Proofs.Ytobioaommmgehaa.Pure
open Go.RowKit Go.Proofs.Ytobioaommmgehaa.X Go.Proofs.YtobioaommmgehaaW.PrintWords Go.Proofs.YtobioaommmgehaaW.PrintLast Go.Proofs.YtobioaommmgehaaW.PrintMore

/-- What is read can be written. -/
theorem opts_ok : ∀ (m : Nat) (b : List Int) (l r : List S50), (∀ x ∈ b, 0 ≤ x ∧ x < 256) → opts4 m b l = (r, true) → ∃ t, r = l ++ t ∧ okK t ∧ (optsB t).length ≤ b.length
  | 0, b, l, r, _, h => by
    rw [opts4] at h
    have := congrArg Prod.snd h
    cases this
  | m + 1, b, l, r, hb, h => by
    have hg : ∀ j, 0 ≤ b.getD j 0 ∧ b.getD j 0 < 256 := fun j => by
      rw [List.getD_eq_getElem?_getD]
      cases h : b[j]? with
      | none => simp
      | some v => exact hb v (List.mem_of_getElem? h)
    have nil : ∃ t, l = l ++ t ∧ okK t ∧ (optsB t).length ≤ b.length := ⟨[], (List.append_nil l).symm, (show okK ([] : List S50) from fun x hx => by cases hx), Nat.zero_le _⟩
    rw [opts4] at h
    by_cases h0 : b.length = 0 ∨ b.getD 0 0 = 0
    · rw [if_pos h0] at h
      obtain rfl := congrArg Prod.fst h
      exact nil
    rw [if_neg h0] at h
    by_cases h1 : b.getD 0 0 = 1
    · rw [if_pos h1] at h
      obtain ⟨t, e, hK, ht⟩ := opts_ok m (b.drop 1) l r (fun x hx => hb x (List.mem_of_mem_drop hx)) h
      rw [List.length_drop] at ht
      exact ⟨t, e, hK, by omega⟩
    rw [if_neg h1] at h
    by_cases h2 : b.length = 1
    · rw [if_pos h2] at h
      have := congrArg Prod.snd h
      cases this
    rw [if_neg h2] at h
    by_cases h3 : b.getD 1 0 < 2 ∨ (b.length : Int) < b.getD 1 0
    · rw [if_pos h3] at h
      have := congrArg Prod.snd h
      cases this
    rw [if_neg h3] at h
    obtain ⟨t, e, hK, ht⟩ := opts_ok m (b.drop (b.getD 1 0).toNat) _ r (fun x hx => hb x (List.mem_of_mem_drop hx)) h
    have v0 := hg 0
    have v1 := hg 1
    have hs : (strOfNums ((b.take (b.getD 1 0).toNat).drop 2)).size = (b.getD 1 0).toNat - 2 := by
      rw [strOfNums_size, List.length_drop, List.length_take]; omega
    refine ⟨⟨b.getD 0 0, strOfNums ((b.take (b.getD 1 0).toNat).drop 2)⟩ :: t, by rw [e, List.append_assoc]; rfl, ?_, ?_⟩
    · intro x hx
      rcases List.mem_cons.mp hx with rfl | hx
      · exact ⟨by show 2 ≤ b.getD 0 0; omega, by show b.getD 0 0 ≤ 255; omega⟩
      · exact hK x hx
    · rw [List.length_drop] at ht
      have h2' : b.length ≠ 0 := fun z => h0 (.inl z)
      simp only [optsB, List.length_append, optB_len]
      rw [hs]
      omega
end Go.Proofs.Ytobioaommmgehaa.Pure


/-! ### Ip4Q -/
set_option linter.unusedVariables false
set_option linter.unusedSimpArgs false
namespace Go.Proofs.Ytobioaommmgehaa.Pure
open Go.RowKit Go.Proofs.Ytobioaommmgehaa.X Go.Proofs.YtobioaommmgehaaW.PrintWords Go.Proofs.YtobioaommmgehaaW.PrintLast Go.Proofs.YtobioaommmgehaaW.PrintMore

theorem getD_byte (L : List Int) (hL : ∀ x ∈ L, 0 ≤ x ∧ x < 256) (j : Nat) : 0 ≤ L.getD j 0 ∧ L.getD j 0 < 256 := by
  rw [List.getD_eq_getElem?_getD]
  cases h : L[j]? with
  | none => simp
  | some v => exact hL v (List.mem_of_getElem? h)
theorem val_range2 (L : List Int) (hL : ∀ x ∈ L, 0 ≤ x ∧ x < 256) (i z : Nat) (h : i + z ≤ L.length) : 0 ≤ valBE ((L.drop i).take z) ∧ valBE ((L.drop i).take z) < 256 ^ z := by
  have := valBE_range _ (fun x hx => hL x (List.mem_of_mem_drop (List.mem_of_mem_take hx)) : ∀ x ∈ (L.drop i).take z, 0 ≤ x ∧ x < 256)
  rwa [show ((L.drop i).take z).length = z by rw [List.length_take, List.length_drop]; omega] at this
theorem dec4_cases (L : List Int) (hL : ∀ x ∈ L, 0 ≤ x ∧ x < 256) :
    (∃ e, e ≠ 0 ∧ dec4Of L = bad4 e) ∨
    (∃ c id tt pr dn mr off s2 d2 l p, dec4Of L = (c, id, tt, pr, dn, mr, off, false, 0, s2, false, 0, d2, l, p, 0) ∧ okN4 c id tt pr off ∧ (0 ≤ s2 ∧ s2 ≤ 4294967295) ∧ (0 ≤ d2 ∧ d2 ≤ 4294967295) ∧ okK l ∧ (optsB l).length ≤ 40 ∧ 20 + (wrB l).length + p.size ≤ L.length ∧ 20 + (wrB l).length + p.size ≤ 65535 ∧ l.length ≤ 40 ∧
      sumOf (strOfNums (L.take (hl4 L))) = 0) := by
  unfold dec4Of
  by_cases h1 : L.length < 20
  · exact .inl ⟨1, by decide, by rw [if_pos h1]⟩
  rw [if_neg h1]
  by_cases h2 : L.getD 0 0 / 16 ≠ 4 ∨ hl4 L < 20
  · exact .inl ⟨2, by decide, by rw [if_pos h2]⟩
  rw [if_neg h2]
  by_cases h3 : L.length < hl4 L ∨ (L.length : Int) < valBE ((L.drop 2).take 2)
  · exact .inl ⟨1, by decide, by rw [if_pos h3]⟩
  rw [if_neg h3]
  by_cases h4 : valBE ((L.drop 2).take 2) < (hl4 L : Int)
  · exact .inl ⟨2, by decide, by rw [if_pos h4]⟩
  rw [if_neg h4]
  by_cases h5 : sumOf (strOfNums (L.take (hl4 L))) ≠ 0
  · exact .inl ⟨8, by decide, by rw [if_pos h5]⟩
  rw [if_neg h5]
  by_cases h6 : (opts4 (hl4 L - 20 + 1) ((L.take (hl4 L)).drop 20) []).2 = false ∨ valBE ((L.drop 6).take 2) / 32768 % 2 ≠ 0
  · exact .inl ⟨2, by decide, by rw [if_pos h6]⟩
  rw [if_neg h6]
  have g0 := getD_byte L hL 0
  have g1 := getD_byte L hL 1
  have g8 := getD_byte L hL 8
  have g9 := getD_byte L hL 9
  have v2 := val_range2 L hL 2 2 (by omega)
  have v4 := val_range2 L hL 4 2 (by omega)
  have v6 := val_range2 L hL 6 2 (by omega)
  have v12 := val_range2 L hL 12 4 (by omega)
  have v16 := val_range2 L hL 16 4 (by omega)
  have h60 : hl4 L ≤ 60 := by unfold hl4; omega
  have h4m : hl4 L % 4 = 0 := by unfold hl4; omega
  obtain ⟨t, ht, hK, hlen⟩ := opts_ok (hl4 L - 20 + 1) ((L.take (hl4 L)).drop 20) [] (opts4 (hl4 L - 20 + 1) ((L.take (hl4 L)).drop 20) []).1 (fun x hx => hL x (List.mem_of_mem_take (List.mem_of_mem_drop hx))) (by
    rw [Prod.ext_iff]
    refine ⟨rfl, ?_⟩
    cases hb : (opts4 (hl4 L - 20 + 1) ((L.take (hl4 L)).drop 20) []).2 with
    | true => rfl
    | false => exact absurd (.inl hb) h6)
  rw [List.nil_append] at ht
  rw [List.length_drop, List.length_take] at hlen
  have hcnt : ∀ q : List S50, q.length ≤ (optsB q).length := by
    intro q
    induction q with
    | nil => exact Nat.zero_le _
    | cons x r ih => simp only [optsB, List.length_cons, List.length_append, optB_len]; omega
  have hc := hcnt t
  have hw : (wrB t).length ≤ hl4 L - 20 := by
    unfold wrB padN
    rw [List.length_append, List.length_replicate]
    omega
  have hps : (strOfNums ((L.take (valBE ((L.drop 2).take 2)).toNat).drop (hl4 L))).size = (valBE ((L.drop 2).take 2)).toNat - hl4 L := by
    rw [strOfNums_size, List.length_drop, List.length_take]; omega
  refine .inr ⟨_, _, _, _, _, _, _, _, _, _, _, rfl, ⟨by omega, by omega, by omega, by omega, by omega, ?_⟩, by omega, by omega, by rw [ht]; exact hK, by rw [ht]; omega, by rw [ht, hps]; omega, by rw [ht, hps]; omega, by rw [ht]; omega, Decidable.not_not.mp h5⟩
  rw [Int.tmod_eq_emod_of_nonneg (by omega)]
  omega
theorem e4_head (c id tt pr : Int) (dn mr : Bool) (off : Int) (s2 d2 : Int) (hN : okN4 c id tt pr off) (o p : ByteArray) (ho : o.size ≤ 40) (ho4 : o.size % 4 = 0) :
    (e4Of c id tt pr dn mr off false 0 s2 false 0 d2 o p).size = 20 + o.size + p.size ∧ sumOf ((e4Of c id tt pr dn mr off false 0 s2 false 0 d2 o p).extract 0 (20 + o.size)) = 0 := by
  have hbo := bytesOf_length o
  have hbp := bytesOf_length p
  have hb := e4_bytes c id tt pr dn mr off hN o p ho false 0 s2 false 0 d2
  have hz := sum_zero4 (h4A c id tt pr dn mr off o p) (h4B false 0 s2 false 0 d2 o) (by unfold h4A; simp [beN_length]) (h4A_range c id tt pr dn mr off hN o p ho) (h4B_range _ _ _ _ _ _ _)
  generalize sumOf (strOfNums (h4A c id tt pr dn mr off o p ++ [0, 0] ++ h4B false 0 s2 false 0 d2 o)) = S at hz hb
  have zH : (h4A c id tt pr dn mr off o p ++ beN 2 S ++ h4B false 0 s2 false 0 d2 o).length = 20 + o.size := by unfold h4A h4B adrB; simp [beN_length]; omega
  refine ⟨?_, ?_⟩
  · rw [← bytesOf_length, hb, List.length_append, zH, hbp]
  · rw [← str_bytes ((e4Of c id tt pr dn mr off false 0 s2 false 0 d2 o p).extract 0 (20 + o.size)), bytesOf_extract, hb, List.drop_zero, Nat.sub_zero, List.take_left' zH]
    exact hz
end Go.Proofs.Ytobioaommmgehaa.Pure


/-! ### PureIpv4Notices -/
set_option linter.unusedVariables false
set_option linter.unusedSimpArgs false
namespace Go.Proofs.Ytobioaommmgehaa.Pure
open Go.RowKit Go.Proofs.Ytobioaommmgehaa.X Go.Proofs.YtobioaommmgehaaW.PrintWords Go.Proofs.YtobioaommmgehaaW.PrintLast Go.Proofs.YtobioaommmgehaaW.PrintMore

theorem xor_other (a b : Int) (a0 : 0 ≤ a) (a1 : a ≤ 255) (b0 : 0 ≤ b) (b1 : b < 256) (hb : b ≠ 0) : Go.bits .xor .u8 a b ≠ a ∧ 0 ≤ Go.bits .xor .u8 a b ∧ Go.bits .xor .u8 a b < 256 := by
  obtain ⟨m, rfl⟩ := Int.eq_ofNat_of_zero_le a0
  obtain ⟨n, rfl⟩ := Int.eq_ofNat_of_zero_le b0
  rw [u8_xor_nat m n (by omega) (by omega)]
  have hlt : m ^^^ n < 256 := Nat.xor_lt_two_pow (n := 8) (by omega) (by omega)
  refine ⟨?_, by omega, by omega⟩
  intro h
  have h2 : m ^^^ n = m := by exact_mod_cast h
  have h3 : m ^^^ (m ^^^ n) = m ^^^ m := by rw [h2]
  rw [← Nat.xor_assoc, Nat.xor_self, Nat.zero_xor] at h3
  omega
theorem tot_set : ∀ (l : List Int) (i : Nat) (x : Int) (h : i < l.length), tot (l.set i x) = tot l + (x - l[i]) * (if i % 2 = 0 then 256 else 1)
  | [], i, x, h => by simp at h
  | [a], 0, x, _ => by simp only [List.set_cons_zero, tot, List.getElem_cons_zero, Nat.zero_mod, if_true]; omega
  | [a], i + 1, x, h => by simp at h
  | a :: b :: r, 0, x, _ => by simp only [List.set_cons_zero, tot, List.getElem_cons_zero, Nat.zero_mod, if_true]; omega
  | a :: b :: r, 1, x, _ => by simp only [List.set_cons_succ, List.set_cons_zero, tot, List.getElem_cons_succ, List.getElem_cons_zero]; simp; omega
  | a :: b :: r, i + 2, x, h => by
    have ih := tot_set r i x (by simp at h; omega)
    simp only [List.set_cons_succ, tot, List.getElem_cons_succ, ih, Nat.add_mod_right]
    omega
theorem sum0_tot (Q : List Int) (hQ : ∀ x ∈ Q, 0 ≤ x ∧ x < 256) (h : sumOf (strOfNums Q) = 0) : tot Q % 65535 = 0 := by
  have h0 := tot_nonneg Q hQ
  unfold sumOf at h
  rw [bytesOf_strOfNums Q hQ] at h
  unfold canon at h
  split at h <;> omega
/-- A changed byte of a header is noticed. -/
theorem changed4 (L : List Int) (hL : ∀ x ∈ L, 0 ≤ x ∧ x < 256) (hz : sumOf (strOfNums (L.take (hl4 L))) = 0) (i : Nat) (x : Int) (h1 : 1 ≤ i) (hi : i < hl4 L) (hlen : hl4 L ≤ L.length) (hx : 0 ≤ x ∧ x < 256) (hlt : i < L.length) (hne : x ≠ L[i]) :
    (dec4Of (L.set i x)).2.2.2.2.2.2.2.2.2.2.2.2.2.2.2 ≠ 0 := by
  have hr : ∀ y ∈ L.set i x, 0 ≤ y ∧ y < 256 := by
    intro y hy
    rcases List.mem_or_eq_of_mem_set hy with hy | rfl
    · exact hL y hy
    · exact hx
  have hg : (L.set i x).getD 0 0 = L.getD 0 0 := by
    rw [List.getD_eq_getElem?_getD, List.getD_eq_getElem?_getD, List.getElem?_set_ne (by omega)]
  have hh : hl4 (L.set i x) = hl4 L := by unfold hl4; rw [hg]
  rcases dec4_cases (L.set i x) hr with ⟨e, he, hd⟩ | ⟨c, id, tt, pr, dn, mr, off, s2, d2, l, p, hd, -, -, -, -, -, -, -, -, hs⟩
  · rw [hd]; exact he
  · exfalso
    rw [hh] at hs
    have ht : (L.set i x).take (hl4 L) = (L.take (hl4 L)).set i x := by rw [List.take_set]
    rw [ht] at hs
    have rt : ∀ y ∈ L.take (hl4 L), 0 ≤ y ∧ y < 256 := fun y hy => hL y (List.mem_of_mem_take hy)
    have rs : ∀ y ∈ (L.take (hl4 L)).set i x, 0 ≤ y ∧ y < 256 := by rw [← ht]; exact fun y hy => hr y (List.mem_of_mem_take hy)
    have a1 := sum0_tot _ rt hz
    have a2 := sum0_tot _ rs hs
    have hlt' : i < (L.take (hl4 L)).length := by rw [List.length_take]; omega
    rw [tot_set _ i x hlt', List.getElem_take] at a2
    have hb := hL _ (List.getElem_mem hlt)
    generalize L[i] = b at hne hb a2
    generalize tot (L.take (hl4 L)) = T at a1 a2
    have hm : (if i % 2 = 0 then 256 else 1 : Int) = 256 ∨ (if i % 2 = 0 then 256 else 1 : Int) = 1 := by split <;> simp
    rcases hm with hm | hm
    · rw [hm] at a2; omega
    · rw [hm] at a2; omega
theorem Ipv4Notices : intrusionlaw11_Ipv4Notices.Pure := by
  intro c id tt pr dn mr off v s1 s2 w d1 d2 l p at' by' _ _ _ _ _ h1 h2 h3 h4 _ _ _ ha hb
  have hb := wf_u8 hb
  have ha := wf_i64 ha
  have u2 := wf_u64 h2
  have u4 := wf_u64 h4
  obtain ⟨K, hK⟩ : ∃ K, 70000 = K := ⟨_, rfl⟩
  refine ⟨K + 2, ?_⟩
  unfold intrusionlaw11_Ipv4Notices.f
  rw [large_is]
  simp only [bs]
  have no : intrusionlaw11_Ipv4Notices.j0 (K + 2) at' by' true c id tt pr dn mr off v s1 s2 w d1 d2 l p = some true := by
    rw [intrusionlaw11_Ipv4Notices.j0, if_pos rfl, awake11_is _ (by omega)]
    simp only [bs]
  have no1 : ∀ t, intrusionlaw11_Ipv4Notices.j1 (K + 1) at' by' t true = some true := by
    intro t
    rw [intrusionlaw11_Ipv4Notices.j1, if_pos rfl, awake11_is _ (by omega)]
    simp only [bs]
  by_cases hL : p.size > 70000 ∨ l.length > 60
  · rw [if_pos (decide_eq_true hL), no]
  rw [if_neg (by rw [decide_eq_true_iff]; exact hL)]
  by_cases hP : (p.size : Int) > 3000
  · rw [decide_eq_true hP, no]
  rw [decide_eq_false hP, intrusionlaw11_Ipv4Notices.j0, if_neg (by decide), encode4_is c id tt pr dn mr off v s1 s2 w d1 d2 l p (by omega) (by omega) (K + 1) (by omega)]
  simp only [bs]
  unfold enc4Of
  by_cases ho : ok4 c id tt pr off v s1 s2 w d1 d2 ∧ okK l
  case neg =>
    rw [if_neg ho]
    dsimp only
    rw [if_neg (by decide), no1]
  rw [if_pos ho]
  by_cases hB : (optsB l).length > 40 ∨ 20 + (wrB l).length + p.size > 65535
  · rw [if_pos hB]
    dsimp only
    rw [if_neg (by decide), no1]
  rw [if_neg hB]
  dsimp only
  rw [if_pos rfl]
  by_cases hb0 : by' = 0
  · rw [if_pos hb0, no1]
  rw [if_neg hb0]
  by_cases ha1 : at' < 1
  · rw [if_pos ha1, no1]
  rw [if_neg ha1]
  obtain ⟨⟨hN, ⟨rfl, rfl, hs2⟩, ⟨rfl, rfl, hd2⟩⟩, hKK⟩ := ho
  obtain ⟨z1, z2, z3⟩ := wrB_len l (by omega)
  have zo : (strOfNums (wrB l)).size = (wrB l).length := strOfNums_size _
  obtain ⟨hz, hsum⟩ := e4_head c id tt pr dn mr off s2 d2 hN (strOfNums (wrB l)) p (by omega) (by omega)
  have hb4 := e4_bytes c id tt pr dn mr off hN (strOfNums (wrB l)) p (by omega) false 0 s2 false 0 d2
  have hg0 : (bytesOf (e4Of c id tt pr dn mr off false 0 s2 false 0 d2 (strOfNums (wrB l)) p)).getD 0 0 = 64 + (20 + ((strOfNums (wrB l)).size : Int)) / 4 := by rw [hb4]; rfl
  clear hb4
  generalize e4Of c id tt pr dn mr off false 0 s2 false 0 d2 (strOfNums (wrB l)) p = s at hz hsum hg0
  have hls := bytesOf_length s
  have hh : hl4 (bytesOf s) = 20 + (strOfNums (wrB l)).size := by unfold hl4; rw [hg0]; omega
  rw [w64 (n := (s.size : Int) - (p.size : Int)) (by omega) (by omega)]
  by_cases ha2 : at' ≥ (s.size : Int) - (p.size : Int)
  · rw [decide_eq_true ha2, no1]
  rw [decide_eq_false ha2, intrusionlaw11_Ipv4Notices.j1, if_neg (by decide)]
  obtain ⟨i, rfl⟩ : ∃ i : Nat, at' = i := ⟨at'.toNat, by omega⟩
  have hlt : i < (bytesOf s).length := by omega
  have hbt : bt s (i : Int) = (bytesOf s)[i] := by
    rw [bt_eq, List.getD_eq_getElem?_getD, List.getElem?_eq_getElem hlt]; rfl
  have hr := bytesOf_range s _ (List.getElem_mem hlt)
  obtain ⟨x1, x2, x3⟩ := xor_other (bytesOf s)[i] by' hr.1 (by omega) hb.1 hb.2 hb0
  rw [if_pos (by omega), if_pos (by omega), if_pos (by omega), hbt]
  simp only [bs]
  have y1 : (strOfNums [Go.bits .xor .u8 (bytesOf s)[i] by']).size = 1 := by rw [strOfNums_size]; rfl
  rw [if_pos (by rw [y1, ByteArray.size_extract]; omega), w64 (n := (i : Int) + 1) (by omega) (by omega), if_pos (by omega), if_pos (by omega), if_pos (by rw [size_append, y1, ByteArray.size_extract, ByteArray.size_extract]; omega), Int.toNat_natCast, show ((i : Int) + 1).toNat = i + 1 by omega]
  generalize hX : Go.bits .xor .u8 (bytesOf s)[i] by' = x at x1 x2 x3 y1
  have hd : bytesOf (s.extract 0 i ++ strOfNums [x] ++ s.extract (i + 1) s.size) = (bytesOf s).set i x := by
    rw [bytesOf_append, bytesOf_append, bytesOf_extract, bytesOf_extract, bytesOf_strOfNums [x] (by intro y hy; simp at hy; omega), List.drop_zero, Nat.sub_zero, List.take_of_length_le (l := List.drop (i + 1) (bytesOf s)) (by rw [List.length_drop]; omega), List.set_eq_take_append_cons_drop, if_pos hlt]
    simp
  have hds : (s.extract 0 i ++ strOfNums [x] ++ s.extract (i + 1) s.size).size = s.size := by
    rw [← bytesOf_length, hd, List.length_set, hls]
  have hc := changed4 (bytesOf s) (bytesOf_range s) (by
    rw [hh]
    rw [← str_bytes (s.extract 0 (20 + (strOfNums (wrB l)).size)), bytesOf_extract, List.drop_zero, Nat.sub_zero] at hsum
    exact hsum) i x (by omega) (by omega) (by omega) ⟨x2, x3⟩ hlt x1
  rw [decode4_is _ (by omega) K (by omega), hd]
  simp only [bs]
  rw [if_neg hc, awake11_is K (by omega)]
  simp only [bs]
end Go.Proofs.Ytobioaommmgehaa.Pure

