/- TunnelNotices as a plain law: a changed byte, other than the first, of a GRE packet with a checksum does not give what was wrapped, for at most 3000 bytes, and the examples hold; no condition but that a machine holds the bytes. -/
import Derived.Test.YtocobalkikkhlaaDoorXDTunnelNotices
import Derived.Test.YtocobalkikkhlaaDoorX0
import Derived.Laws.Bits128
import Derived.Laws.BitsAllLaws
import Derived.Lib.EndianBits
import Derived.Test.YtocobalkikkhlaaDoorX4
import Derived.Test.YtocobalkikkhlaaDoorX6
import Derived.Test.YtocobalkikkhlaaDoorX8
import Derived.Test.YtocobalkikkhlaaDoorX7
import Derived.Test.YtocobalkikkhlaaDoorX10
import Derived.Test.YtocobalkikkhlaaDoorX9
import Derived.Test.YtocobalkikkhlaaDoorX15
import Derived.Test.YtocobalkikkhlaaDoorX5
import Derived.Test.YtocobalkikkhlaaDoorX11
import Derived.Test.YtocobalkikkhlaaDoorX16
import Derived.Test.YtocobalkikkhlaaDoorX17
/-! ### Base -/
namespace Go.Proofs.YtocobalkikkhlaaDoor.Pure
open Go.RowKit Go.Proofs.YtocobalkikkhlaaDoor.X Go.Proofs.YtocobalkikkhlaaDoorW.PrintWords Go.Proofs.YtocobalkikkhlaaDoorW.PrintLast Go.Proofs.YtocobalkikkhlaaDoorW.PrintMore

/-- Told without 'rfl': a simp by it leaves the kernel little to compare. -/
theorem bs {α β : Type} (a : α) (f : α → Option β) : (some a).bind f = f a := by
  cases h : (some a) with
  | none => cases h
  | some b => injection h with h; subst h; rfl
theorem w64 {n : Int} (h : -9223372036854775808 ≤ n) (h' : n < 9223372036854775808) : wrap64 n = n := by unfold wrap64; omega
theorem and16 (n : Int) : Go.bits .and .i64 n 65535 = n % 65536 := by
  have h127 : (BitVec.ofInt 64 65535).toNat = 2 ^ 16 - 1 := by decide
  have key : (BitVec.ofInt 64 n &&& BitVec.ofInt 64 65535).toNat = (n % ((2 ^ 64 : Nat) : Int)).toNat % 2 ^ 16 := by
    rw [BitVec.toNat_and, BitVec.toNat_ofInt, h127, Nat.and_two_pow_sub_one_eq_mod]
  show IntKind.i64.wrap ((BitVec.ofInt 64 n &&& BitVec.ofInt 64 65535).toNat : Nat) = n % 65536
  rw [key, IntKind.wrap_i64]
  omega
theorem wraps_i64' (n : Int) (h₀ : 0 ≤ n) (h₁ : n < 2 ^ 63) : IntKind.i64.wrap n = n := by rw [IntKind.wrap_i64]; omega
/-- 'x*256 | b' on int. -/
theorem or8 (x b : Int) (h0 : 0 ≤ x) (h1 : x < 9223372036854775808) (hx : x % 256 = 0) (hb0 : 0 ≤ b) (hb : b < 256) : Go.bits .or .i64 x b = x + b :=
  bits_join .i64 63 (by decide) wraps_i64' 8 x b h0 (by omega) (by omega) hb0 (by omega) (by omega)
theorem bytesOf_data (s : ByteArray) : bytesOf s = s.data.toList.map fun b => (b.toNat : Int) := rfl
theorem bytesOf_append (a b : ByteArray) : bytesOf (a ++ b) = bytesOf a ++ bytesOf b := by
  simp [bytesOf, ByteArray.data_append]
theorem bytesOf_nil : bytesOf (⟨#[]⟩ : ByteArray) = [] := rfl
theorem bytesOf_extract (s : ByteArray) (i j : Nat) : bytesOf (s.extract i j) = ((bytesOf s).drop i).take (j - i) := by
  simp [bytesOf, ByteArray.data_extract, List.map_take, List.map_drop]
  try rw [List.extract_eq_take_drop]
theorem bytesOf_range (s : ByteArray) : ∀ x ∈ bytesOf s, 0 ≤ x ∧ x < 256 := by
  intro x hx
  obtain ⟨b, _, rfl⟩ := List.mem_map.mp hx
  have := b.toNat_lt
  omega
theorem bytesOf_inj {a b : ByteArray} (h : bytesOf a = bytesOf b) : a = b := by
  have h2 : a.data.toList = b.data.toList := by
    refine List.map_inj_right (f := fun (b : UInt8) => (b.toNat : Int)) ?_ |>.mp h
    intro x y hxy
    exact UInt8.toNat_inj.mp (by exact_mod_cast hxy)
  cases a; cases b
  simp at h2
  simp [h2]
theorem bytesOf_strOfNums (l : List Int) (h : ∀ x ∈ l, 0 ≤ x ∧ x < 256) : bytesOf (strOfNums l) = l := by
  induction l with
  | nil => rfl
  | cons x l ih =>
    have h1 := h x (by simp)
    have h2 := ih (fun y hy => h y (by simp [hy]))
    simp only [bytesOf, strOfNums_data, List.map_map, List.map_cons] at h2 ⊢
    refine List.cons_eq_cons.mpr ⟨?_, h2⟩
    simp only [UInt8.toNat_ofNat']
    omega
theorem bt_eq (s : ByteArray) (i : Nat) : bt s (i : Int) = (bytesOf s).getD i 0 := by
  unfold bt bytesOf
  rw [Int.toNat_natCast]
  by_cases h : i < s.size
  · have h' : i < s.data.toList.length := by rw [Array.length_toList]; exact h
    rw [dif_pos h]
    simp [List.getD_eq_getElem?_getD, List.getElem?_eq_getElem h']
    rfl
  · have h' : s.data.toList.length ≤ i := by rw [Array.length_toList]; exact Nat.not_lt.1 h
    rw [dif_neg h]
    simp [List.getD_eq_getElem?_getD, List.getElem?_eq_none h']
theorem bt_range (s : ByteArray) (i : Int) : 0 ≤ bt s i ∧ bt s i ≤ 255 := by
  unfold bt
  split
  · rename_i h
    have := (s[i.toNat]'h).toNat_lt
    omega
  · omega
theorem size_bytes (s : ByteArray) : s.size = (bytesOf s).length := (bytesOf_length s).symm
theorem size_append (a b : ByteArray) : (a ++ b).size = a.size + b.size := by simp
theorem toList_congr {a b : ByteArray} (h : bytesOf a = bytesOf b) : a.toList = b.toList := by rw [bytesOf_inj h]
theorem strOfNums_append (a b : List Int) : strOfNums (a ++ b) = strOfNums a ++ strOfNums b := by
  apply ByteArray.ext; simp [strOfNums, ByteArray.data_append]
theorem strOfNums_length (a : List Int) : (strOfNums a).size = a.length := strOfNums_size a
theorem wf_i64 {n : Int} (h : (Lit.int .i64 n).wf = true) : -9223372036854775808 ≤ n ∧ n < 9223372036854775808 := by
  simp only [Lit.wf, Bool.and_eq_true, decide_eq_true_eq] at h
  have e1 : IntKind.i64.min = -9223372036854775808 := by decide
  have e2 : IntKind.i64.max = 9223372036854775807 := by decide
  omega
theorem wf_u64 {n : Int} (h : (Lit.int .u64 n).wf = true) : 0 ≤ n ∧ n < 18446744073709551616 := by
  simp only [Lit.wf, Bool.and_eq_true, decide_eq_true_eq] at h
  have e1 : IntKind.u64.min = 0 := by decide
  have e2 : IntKind.u64.max = 18446744073709551615 := by decide
  omega
theorem wf_u32 {n : Int} (h : (Lit.int .u32 n).wf = true) : 0 ≤ n ∧ n < 4294967296 := by
  simp only [Lit.wf, Bool.and_eq_true, decide_eq_true_eq] at h
  have e1 : IntKind.u32.min = 0 := by decide
  have e2 : IntKind.u32.max = 4294967295 := by decide
  omega
theorem wf_u16 {n : Int} (h : (Lit.int .u16 n).wf = true) : 0 ≤ n ∧ n < 65536 := by
  simp only [Lit.wf, Bool.and_eq_true, decide_eq_true_eq] at h
  have e1 : IntKind.u16.min = 0 := by decide
  have e2 : IntKind.u16.max = 65535 := by decide
  omega
theorem wf_u8 {n : Int} (h : (Lit.int .u8 n).wf = true) : 0 ≤ n ∧ n < 256 := by
  simp only [Lit.wf, Bool.and_eq_true, decide_eq_true_eq] at h
  have e1 : IntKind.u8.min = 0 := by decide
  have e2 : IntKind.u8.max = 255 := by decide
  omega
end Go.Proofs.YtocobalkikkhlaaDoor.Pure

/-! ### Field -/
namespace Go.Proofs.YtocobalkikkhlaaDoor.Pure
open Go.RowKit Go.Proofs.YtocobalkikkhlaaDoor.X Go.Proofs.YtocobalkikkhlaaDoorW.PrintWords Go.Proofs.YtocobalkikkhlaaDoorW.PrintLast Go.Proofs.YtocobalkikkhlaaDoorW.PrintMore

/-- The last digits of a number to the base 256, the most significant first. -/
def beN : Nat → Int → List Int
  | 0, _ => []
  | i + 1, n => n / 256 ^ i % 256 :: beN i n
theorem beN_length : ∀ (i : Nat) (n : Int), (beN i n).length = i
  | 0, _ => rfl
  | i + 1, n => by simp [beN, beN_length i n]
theorem beN_range : ∀ (i : Nat) (n : Int), ∀ x ∈ beN i n, 0 ≤ x ∧ x < 256
  | 0, _, x, h => by simp [beN] at h
  | i + 1, n, x, h => by
    simp only [beN, List.mem_cons] at h
    rcases h with rfl | h
    · omega
    · exact beN_range i n x h
/-- The number of digits, the most significant first. -/
def valBE (l : List Int) : Int := l.foldl (fun n c => n * 256 + c) 0
theorem val_from : ∀ (l : List Int) (n : Int), l.foldl (fun n c => n * 256 + c) n = n * 256 ^ l.length + valBE l
  | [], n => by simp [valBE]
  | c :: l, n => by
    have h1 := val_from l (n * 256 + c)
    have h2 := val_from l (0 * 256 + c)
    unfold valBE
    simp only [List.foldl_cons, List.length_cons] at h1 h2 ⊢
    rw [h1, h2, Int.pow_succ]
    generalize (256 : Int) ^ l.length = p
    generalize valBE l = v
    rw [Int.add_mul, Int.zero_mul, Int.zero_add, Int.mul_comm p 256, ← Int.mul_assoc, Int.add_assoc]
theorem valBE_cons (c : Int) (l : List Int) : valBE (c :: l) = c * 256 ^ l.length + valBE l := by
  have h := val_from l (0 * 256 + c)
  unfold valBE
  simp only [List.foldl_cons]
  rw [h, Int.zero_mul, Int.zero_add]
  rfl
theorem valBE_range : ∀ l : List Int, (∀ x ∈ l, 0 ≤ x ∧ x < 256) → 0 ≤ valBE l ∧ valBE l < 256 ^ l.length
  | [], _ => by simp [valBE]
  | c :: l, h => by
    have h1 := valBE_range l (fun x hx => h x (by simp [hx]))
    have h2 := h c (by simp)
    have hp : (0 : Int) < 256 ^ l.length := Int.pow_pos (by decide)
    rw [valBE_cons, List.length_cons, Int.pow_succ]
    generalize (256 : Int) ^ l.length = p at *
    constructor
    · exact Int.add_nonneg (Int.mul_nonneg h2.1 (by omega)) h1.1
    · have : c * p ≤ 255 * p := Int.mul_le_mul_of_nonneg_right (by omega) (by omega)
      omega
theorem valBE_beN : ∀ (i : Nat) (n : Int), 0 ≤ n → valBE (beN i n) = n % 256 ^ i
  | 0, n, _ => by simp [beN, valBE]
  | i + 1, n, h => by
    rw [beN, valBE_cons, beN_length, valBE_beN i n h, Int.pow_succ]
    have hp : (0 : Int) < 256 ^ i := Int.pow_pos (by decide)
    have e1 := Int.emod_def n (256 ^ i * 256)
    have e2 := Int.emod_def n (256 ^ i)
    have e3 := Int.emod_def (n / 256 ^ i) 256
    rw [← Int.ediv_ediv_of_nonneg (by omega)] at e1
    rw [e1, e2, e3]
    generalize (256 : Int) ^ i = p
    generalize n / p / 256 = r
    generalize n / p = q
    grind
theorem beN_add (i : Nat) (n c : Int) : beN i (c * 256 ^ i + n) = beN i n := by
  suffices H : ∀ (i m : Nat) (c n : Int), i ≤ m → beN i (c * 256 ^ m + n) = beN i n from H i i c n (Nat.le_refl _)
  intro i
  induction i with
  | zero => intros; rfl
  | succ i ih =>
    intro m c n hm
    rw [beN, beN, ih m c n (by omega)]
    congr 1
    obtain ⟨d, rfl⟩ : ∃ d, m = i + (1 + d) := ⟨m - i - 1, by omega⟩
    have hp : (256 : Int) ^ i ≠ 0 := Int.ne_of_gt (Int.pow_pos (by decide))
    rw [Int.pow_add, ← Int.mul_assoc, Int.mul_right_comm, Int.mul_comm _ ((256 : Int) ^ i), Int.add_comm, Int.add_mul_ediv_left _ _ hp, Int.pow_add, Int.pow_one, ← Int.mul_assoc, Int.mul_right_comm]
    rw [Int.mul_comm _ 256]
    omega
theorem beN_valBE : ∀ l : List Int, (∀ x ∈ l, 0 ≤ x ∧ x < 256) → beN l.length (valBE l) = l
  | [], _ => rfl
  | c :: l, h => by
    have h1 := valBE_range l (fun x hx => h x (by simp [hx]))
    have h2 := h c (by simp)
    have hp : (0 : Int) < 256 ^ l.length := Int.pow_pos (by decide)
    rw [List.length_cons, beN, valBE_cons, beN_add, beN_valBE l (fun x hx => h x (by simp [hx]))]
    congr 1
    rw [Int.add_comm, Int.add_mul_ediv_right _ _ (by omega), Int.ediv_eq_zero_of_lt h1.1 h1.2]
    omega
theorem shr64 (n : Int) (i : Nat) (h : i ≤ 8) : shr .i64 n (8 * (i : Int)) = n / 256 ^ i := by
  unfold shr
  have e : IntKind.i64.bits = 64 := rfl
  rw [e, show (8 * (i : Int)).toNat = 8 * i by omega, Nat.min_eq_left (by omega), Int.pow_mul]
  rfl
theorem put_loop (n : Int) (size : Nat) (hs : size ≤ 7) : ∀ (m i k : Nat), i + m = size →
    field_Put.l0 (k + m + 1) n size (List.replicate m 0 ++ beN i n) size i = some (strOfNums (beN size n))
  | 0, i, k, h => by
    unfold field_Put.l0
    rw [if_neg (by omega)]
    simp only [List.replicate_zero, List.nil_append]
    rw [show i = size by omega]
  | m + 1, i, k, h => by
    rw [show k + (m + 1) + 1 = (k + m + 1) + 1 by omega]
    unfold field_Put.l0
    have hl : (List.replicate (m + 1) (0 : Int) ++ beN i n).length = size := by simp [beN_length]; omega
    rw [w64 (n := 8 * (i : Int)) (by omega) (by omega), w64 (n := (size : Int) - 1) (by omega) (by omega), w64 (n := (size : Int) - 1 - i) (by omega) (by omega), w64 (n := (i : Int) + 1) (by omega) (by omega), hl]
    rw [if_pos (by omega), if_pos (by omega), if_pos (by omega), if_pos (by omega), shr64 n i (by omega)]
    have e : (List.replicate (m + 1) (0 : Int) ++ beN i n).set ((size : Int) - 1 - i).toNat (n / 256 ^ i % 256) = List.replicate m 0 ++ beN (i + 1) n := by
      rw [show ((size : Int) - 1 - i).toNat = m by omega, List.replicate_succ', List.append_assoc, List.set_append_right _ _ (by simp)]
      simp [beN]
    rw [e, show (i : Int) + 1 = ((i + 1 : Nat) : Int) by omega]
    exact put_loop n size hs m (i + 1) k (by omega)
/-- Put in closed form. -/
def putOf (n size : Int) : ByteArray := if 1 ≤ size ∧ size ≤ 7 ∧ 0 ≤ n ∧ n < 256 ^ size.toNat then strOfNums (beN size.toNat n) else ⟨#[]⟩
theorem put_is (n size : Int) (k : Nat) (hk : 10 ≤ k) : field_Put.f k n size = some (putOf n size) := by
  obtain ⟨k, rfl⟩ : ∃ m, k = m + 1 := ⟨k - 1, by omega⟩
  unfold field_Put.f field_valid.f putOf
  by_cases h1 : 1 ≤ size
  · by_cases h7 : size ≤ 7
    · obtain ⟨z, rfl⟩ := Int.eq_ofNat_of_zero_le (show 0 ≤ size by omega)
      have hp : (0 : Int) < 256 ^ z := Int.pow_pos (by decide)
      simp only [ge_iff_le, h1, h7, if_true, decide_true, Option.bind_some, true_and, Int.toNat_natCast]
      rw [w64 (n := 8 * (z : Int)) (by omega) (by omega), shr64 n z (by omega)]
      by_cases h0 : n < 0
      · rw [if_pos h0, if_neg (show ¬ (0 ≤ n ∧ n < 256 ^ z) by omega)]
        unfold field_Put.j0
        simp
      · rw [if_neg h0, if_pos (show 0 ≤ 8 * (z : Int) by omega)]
        by_cases hb : n < 256 ^ z
        · rw [if_pos ⟨by omega, hb⟩, Int.ediv_eq_zero_of_lt (by omega) hb]
          unfold field_Put.j0
          have hl := put_loop n z (by omega) z 0 (k - z - 1) (by omega)
          rw [show k - z - 1 + z + 1 = k by omega] at hl
          simp only [bne_self_eq_false, Bool.false_eq_true, if_false]
          rw [if_pos (by omega), if_pos (by omega)]
          simpa [beN] using hl
        · have h3 : n / 256 ^ z ≠ 0 := by
            intro hz
            have := Int.lt_ediv_add_one_mul_self n hp
            rw [hz] at this
            omega
          rw [if_neg (fun h => hb h.2)]
          unfold field_Put.j0
          simp [h3]
    · have hn : ¬ (1 ≤ size ∧ size ≤ 7 ∧ 0 ≤ n ∧ n < 256 ^ size.toNat) := fun h => h7 h.2.1
      rw [if_pos (show size ≥ 1 from h1), if_neg hn]
      unfold field_Put.j0
      simp [h7]
  · have hn : ¬ (1 ≤ size ∧ size ≤ 7 ∧ 0 ≤ n ∧ n < 256 ^ size.toNat) := fun h => h1 h.1
    rw [if_neg (show ¬ size ≥ 1 from h1), if_neg hn]
    unfold field_Put.j0
    simp
theorem putOf_size (n size : Int) (h1 : 1 ≤ size) (h7 : size ≤ 7) (h0 : 0 ≤ n) (hb : n < 256 ^ size.toNat) : bytesOf (putOf n size) = beN size.toNat n := by
  unfold putOf
  rw [if_pos ⟨h1, h7, h0, hb⟩, bytesOf_strOfNums _ (beN_range _ _)]
theorem putOf_len (n size : Int) : (putOf n size).size ≤ 7 := by
  unfold putOf
  split
  · rw [strOfNums_size, beN_length]; omega
  · decide
theorem number_loop (l : List Int) (hl : ∀ x ∈ l, 0 ≤ x ∧ x < 256) (h7 : l.length ≤ 7) : ∀ (m i k : Nat), i + m = l.length →
    field_number.l0 (k + m + 1) (valBE (l.take i)) l l.length i = some (valBE l)
  | 0, i, k, h => by
    unfold field_number.l0
    rw [if_neg (by omega), List.take_of_length_le (by omega)]
  | m + 1, i, k, h => by
    rw [show k + (m + 1) + 1 = (k + m + 1) + 1 by omega]
    have hlt : i < l.length := by omega
    have ht : l.take (i + 1) = l.take i ++ [l[i]] := by rw [List.take_add_one]; simp [hlt]
    have e : valBE (l.take (i + 1)) = valBE (l.take i) * 256 + l[i] := by
      rw [ht]; unfold valBE; rw [List.foldl_append]; rfl
    have hr := valBE_range (l.take i) (fun x hx => hl x (List.mem_of_mem_take hx))
    have hc := hl l[i] (List.getElem_mem hlt)
    have hpow : (256 : Int) ^ (l.take i).length ≤ 281474976710656 := by
      have h6 : (l.take i).length ≤ 6 := by simp; omega
      have hn : 256 ^ (l.take i).length ≤ 281474976710656 := Nat.le_trans (Nat.pow_le_pow_right (by decide) h6) (by decide)
      have hc : ((256 ^ (l.take i).length : Nat) : Int) = (256 : Int) ^ (l.take i).length := Int.natCast_pow 256 _
      omega
    have hrd : rd l i = l[i] := by unfold rd; rw [Int.toNat_natCast, List.getD_eq_getElem?_getD, List.getElem?_eq_getElem hlt]; rfl
    unfold field_number.l0
    rw [if_pos (by omega), if_pos (by omega), if_pos (by omega), hrd, w64 (n := l[i]) (by omega) (by omega), w64 (n := valBE (l.take i) * 256) (by omega) (by omega), or8 _ _ (by omega) (by omega) (by omega) (by omega) (by omega), w64 (n := (i : Int) + 1) (by omega) (by omega), ← e,
      show (i : Int) + 1 = ((i + 1 : Nat) : Int) by omega]
    exact number_loop l hl h7 m (i + 1) k (by omega)
theorem number_is (l : List Int) (hl : ∀ x ∈ l, 0 ≤ x ∧ x < 256) (h7 : l.length ≤ 7) (k : Nat) (hk : 8 ≤ k) : field_number.f k l = some (valBE l) := by
  have h := number_loop l hl h7 l.length 0 (k - l.length - 1) (by omega)
  rw [show k - l.length - 1 + l.length + 1 = k by omega] at h
  unfold field_number.f
  simpa [valBE] using h
end Go.Proofs.YtocobalkikkhlaaDoor.Pure

/-! ### Reader -/
namespace Go.Proofs.YtocobalkikkhlaaDoor.Pure
open Go.RowKit Go.Proofs.YtocobalkikkhlaaDoor.X Go.Proofs.YtocobalkikkhlaaDoorW.PrintWords Go.Proofs.YtocobalkikkhlaaDoorW.PrintLast Go.Proofs.YtocobalkikkhlaaDoorW.PrintMore

theorem nil_size : (⟨#[]⟩ : ByteArray).size = 0 := rfl
/-- What 'next' returns, with permission. -/
theorem next_is (s : ByteArray) (i : Nat) (e n : Int) (hs : s.size ≤ 4611686018427387904) (hi : i ≤ s.size) (hn : 0 ≤ n) (hn2 : n ≤ 9223372036854775807) :
    field_Reader_next.f s (i : Int) e n true = some (if e = 0 then (if n > (s.size : Int) - i then ((⟨#[]⟩ : ByteArray), s, (i : Int), 1) else (s.extract i (i + n.toNat), s, (i : Int) + n, 0)) else ((⟨#[]⟩ : ByteArray), s, (i : Int), e)) := by
  unfold field_Reader_next.f
  by_cases h : e = 0
  · subst h
    rw [if_pos rfl, if_pos rfl, if_pos rfl, w64 (n := (s.size : Int) - i) (by omega) (by omega)]
    by_cases h2 : n > (s.size : Int) - i
    · rw [if_pos h2, if_pos h2]
    · rw [if_neg h2, if_neg h2, w64 (n := (i : Int) + n) (by omega) (by omega), w64 (n := (i : Int) + n - n) (by omega) (by omega), if_pos (by omega), if_pos (by omega), if_pos (by omega)]
      rw [show ((i : Int) + n - n).toNat = i by omega, show ((i : Int) + n).toNat = i + n.toNat by omega]
  · rw [if_neg h, if_neg h]
theorem cut_append (s : ByteArray) (i j : Nat) (h : i ≤ j) : s.extract 0 i ++ s.extract i j = s.extract 0 j := by
  apply bytesOf_inj
  rw [bytesOf_append, bytesOf_extract, bytesOf_extract, bytesOf_extract]
  simp only [List.drop_zero, Nat.sub_zero]
  rw [← List.take_append_drop i (List.take j (bytesOf s)), List.take_take, List.drop_take, Nat.min_eq_left h]
theorem put_val (l : ByteArray) (n : Nat) (h1 : 1 ≤ n) (h7 : n ≤ 7) (hl : l.size = n) : putOf (valBE (bytesOf l)) n = l := by
  have hb := bytesOf_length l
  have hr := valBE_range _ (bytesOf_range l)
  have hv := beN_valBE _ (bytesOf_range l)
  rw [hb, hl] at hr hv
  apply bytesOf_inj
  rw [putOf_size _ _ (by omega) (by omega) hr.1 (by simpa using hr.2), Int.toNat_natCast, hv]

theorem int_is (s : ByteArray) (i n : Nat) (e : Int) (k : Nat) (hs : s.size ≤ 4611686018427387904) (hi : i ≤ s.size) (h1 : 1 ≤ n) (h7 : n ≤ 7) (hk : 8 ≤ k) :
    field_Reader_Int.f k s (i : Int) e (n : Int) = some (if e = 0 then (if s.size < i + n then (0, s, (i : Int), 1) else (valBE (bytesOf (s.extract i (i + n))), s, ((i + n : Nat) : Int), 0)) else (0, s, (i : Int), e)) := by
  unfold field_Reader_Int.f field_valid.f
  rw [if_pos (show (n : Int) ≥ 1 by omega), decide_eq_true (show (n : Int) ≤ 7 by omega)]
  simp only [bs]
  rw [next_is s i e _ hs hi (by omega) (by omega)]
  have z : field_number.f k (bytesOf (⟨#[]⟩ : ByteArray)) = some 0 := by rw [number_is _ (bytesOf_range _) (by decide) _ hk]; rfl
  by_cases h : e = 0
  · rw [if_pos h, if_pos h]
    by_cases h2 : (n : Int) > (s.size : Int) - i
    · rw [if_pos h2, if_pos (by omega)]
      simp only [bs, z, nil_size]
      rfl
    · rw [if_neg h2, if_neg (by omega)]
      have z2 : (s.extract i (i + n)).size = n := by simp; omega
      have hb := bytesOf_length (s.extract i (i + n))
      simp only [bs, Int.toNat_natCast]
      rw [if_pos (by omega), number_is _ (bytesOf_range _) (by omega) _ hk]
      simp only [bs]
      rw [show (i : Int) + (n : Int) = ((i + n : Nat) : Int) by omega]
  · rw [if_neg h, if_neg h]
    simp only [bs, z, nil_size]
    rfl
end Go.Proofs.YtocobalkikkhlaaDoor.Pure

/-! ### SumA -/
namespace Go.Proofs.YtocobalkikkhlaaDoor.Pure
open Go.RowKit Go.Proofs.YtocobalkikkhlaaDoor.X Go.Proofs.YtocobalkikkhlaaDoorW.PrintWords Go.Proofs.YtocobalkikkhlaaDoorW.PrintLast Go.Proofs.YtocobalkikkhlaaDoorW.PrintMore

/-- The total of the 16-bit words of a list of bytes. -/
def tot : List Int → Int
  | [] => 0
  | [a] => a * 256
  | a :: b :: r => a * 256 + b + tot r
/-- The one's complement residue, 1 to 65535, or 0 for 0. -/
def canon (t : Int) : Int := if t = 0 then 0 else (t - 1) % 65535 + 1
theorem tot_nonneg : ∀ l : List Int, (∀ x ∈ l, 0 ≤ x ∧ x < 256) → 0 ≤ tot l
  | [], _ => by simp [tot]
  | [a], h => by have := h a (by simp); simp only [tot]; omega
  | a :: b :: r, h => by
    have h1 := h a (by simp)
    have h2 := h b (by simp)
    have h3 := tot_nonneg r (fun x hx => h x (by simp [hx]))
    simp only [tot]; omega
theorem tot_append : ∀ a b : List Int, a.length % 2 = 0 → tot (a ++ b) = tot a + tot b
  | [], b, _ => by simp [tot]
  | [x], b, h => by simp at h
  | x :: y :: r, b, h => by
    have := tot_append r b (by simp at h; omega)
    simp only [tot, List.cons_append, this]; omega
theorem canon_range {t : Int} (_h : 0 ≤ t) : 0 ≤ canon t ∧ canon t ≤ 65535 := by
  unfold canon; split <;> omega
theorem canon_step {t w : Int} (ht : 0 ≤ t) (h0 : 0 ≤ w) (h1 : w ≤ 65535) : (if canon t + w > 65535 then canon t + w - 65535 else canon t + w) = canon (t + w) := by
  unfold canon; split <;> split <;> split <;> omega
theorem fold_some (x : Int) (h0 : 0 ≤ x) (h1 : x ≤ 131070) : checksum_fold.f x = some (if x > 65535 then x - 65535 else x) := by
  unfold checksum_fold.f
  split
  · rw [w64 (by omega) (by omega)]
  · rfl
theorem drop_two (l : List Int) (i : Nat) (h : i + 1 < l.length) : l.drop i = l.getD i 0 :: l.getD (i + 1) 0 :: l.drop (i + 2) := by
  rw [List.drop_eq_getElem_cons (by omega), List.drop_eq_getElem_cons (by omega)]
  simp [List.getD_eq_getElem?_getD, List.getElem?_eq_getElem (show i < l.length by omega), List.getElem?_eq_getElem h]
theorem drop_one (l : List Int) (i : Nat) (h : i + 1 = l.length) : l.drop i = [l.getD i 0] := by
  rw [List.drop_eq_getElem_cons (by omega), List.drop_of_length_le (by omega)]
  simp [List.getD_eq_getElem?_getD, List.getElem?_eq_getElem (show i < l.length by omega)]
theorem sum_loop (s : ByteArray) (hs : s.size ≤ 4611686018427387904) : ∀ (k i : Nat) (t : Int), 0 ≤ t → s.size + 2 < 2 * k + i → i ≤ s.size + 1 →
    checksum_Sum.l0 k s (canon t) i = some (65535 - canon (t + tot ((bytesOf s).drop i)))
  | 0, i, t, _, h, h2 => by omega
  | k + 1, i, t, ht, h, h2 => by
    have hlen := bytesOf_length s
    have hr := canon_range ht
    unfold checksum_Sum.l0
    by_cases h1 : (i : Int) < (s.size : Int)
    · rw [if_pos h1, if_pos (by omega), w64 (n := (i : Int) + 1) (by omega) (by omega)]
      have hb := bt_range s i
      have hb2 := bt_range s ((i : Int) + 1)
      have hm : wrap64 (wrap64 (bt s i) * 256) = bt s i * 256 := by rw [w64 (n := bt s i) (by omega) (by omega), w64 (by omega) (by omega)]
      rw [hm, w64 (n := (i : Int) + 2) (by omega) (by omega), show ((i : Int) + 2) = ((i + 2 : Nat) : Int) by omega]
      by_cases h3 : (i : Int) + 1 < (s.size : Int)
      · rw [if_pos h3, if_pos (by omega), w64 (n := bt s ((i : Int) + 1)) (by omega) (by omega), or8 _ _ (by omega) (by omega) (by omega) (by omega) (by omega),
          w64 (by omega) (by omega), fold_some _ (by omega) (by omega), Option.bind_some, canon_step ht (by omega) (by omega),
          sum_loop s hs k (i + 2) _ (by omega) (by omega) (by omega), drop_two _ i (by omega), tot]
        rw [show ((i : Int) + 1) = ((i + 1 : Nat) : Int) by omega, bt_eq, bt_eq, Int.add_assoc]
      · rw [if_neg h3, w64 (by omega) (by omega), fold_some _ (by omega) (by omega), Option.bind_some, canon_step ht (by omega) (by omega),
          sum_loop s hs k (i + 2) _ (by omega) (by omega) (by omega), drop_one _ i (by omega), tot, List.drop_of_length_le (by omega), tot, bt_eq, Int.add_zero]
    · rw [if_neg h1, List.drop_of_length_le (by omega), tot, Int.add_zero, w64 (by omega) (by omega)]
/-- Sum in closed form. -/
def sumOf (s : ByteArray) : Int := 65535 - canon (tot (bytesOf s))
theorem sum_is (s : ByteArray) (hs : s.size ≤ 4611686018427387904) (k : Nat) (hk : s.size + 2 < k) : checksum_Sum.f k s = some (sumOf s) := by
  have := sum_loop s hs k 0 0 (by omega) (by omega) (by omega)
  unfold checksum_Sum.f sumOf
  simpa [canon] using this
theorem sumOf_range (s : ByteArray) : 0 ≤ sumOf s ∧ sumOf s ≤ 65535 := by
  have := canon_range (tot_nonneg _ (bytesOf_range s))
  unfold sumOf; omega
/-- Add in closed form. -/
def addOf (a b : Int) : Int := if a % 65536 + b % 65536 > 65535 then a % 65536 + b % 65536 - 65535 else a % 65536 + b % 65536
theorem addOf_range (a b : Int) : 0 ≤ addOf a b ∧ addOf a b ≤ 65535 := by unfold addOf; split <;> omega
end Go.Proofs.YtocobalkikkhlaaDoor.Pure

/-! ### PseudoP -/
namespace Go.Proofs.YtocobalkikkhlaaDoor.Pure
open Go.RowKit Go.Proofs.YtocobalkikkhlaaDoor.X Go.Proofs.YtocobalkikkhlaaDoorW.PrintWords Go.Proofs.YtocobalkikkhlaaDoorW.PrintLast Go.Proofs.YtocobalkikkhlaaDoorW.PrintMore

theorem cast2 : ((2 : Nat) : Int) = 2 := rfl
theorem cast4 : ((4 : Nat) : Int) = 4 := rfl
theorem cast8 : ((8 : Nat) : Int) = 8 := rfl
/-- The table of shifts gives the last digits. -/
theorem number_tab (n : Int) (_h0 : 0 ≤ n) (_h1 : n < 18446744073709551616) (z : Nat) (h1 : z = 2 ∨ z = 4 ∨ z = 8) : checksum_number.f n z = some (strOfNums (beN z n)) := by
  have sh : ∀ i : Nat, i ≤ 7 → shr .u64 n (8 * (i : Int)) = n / 256 ^ i := by
    intro i hi
    unfold shr
    have e : IntKind.u64.bits = 64 := rfl
    rw [e, show (8 * (i : Int)).toNat = 8 * i by omega, Nat.min_eq_left (by omega), Int.pow_mul]
    rfl
  have s0 := sh 0 (by omega)
  have s1 := sh 1 (by omega)
  have s2 := sh 2 (by omega)
  have s3 := sh 3 (by omega)
  have s4 := sh 4 (by omega)
  have s5 := sh 5 (by omega)
  have s6 := sh 6 (by omega)
  have s7 := sh 7 (by omega)
  simp only [Int.natCast_zero, Int.mul_zero] at s0
  have k1 : (8 * ((1 : Nat) : Int)) = 8 := rfl
  have k2 : (8 * ((2 : Nat) : Int)) = 16 := rfl
  have k3 : (8 * ((3 : Nat) : Int)) = 24 := rfl
  have k4 : (8 * ((4 : Nat) : Int)) = 32 := rfl
  have k5 : (8 * ((5 : Nat) : Int)) = 40 := rfl
  have k6 : (8 * ((6 : Nat) : Int)) = 48 := rfl
  have k7 : (8 * ((7 : Nat) : Int)) = 56 := rfl
  rw [k1] at s1
  rw [k2] at s2
  rw [k3] at s3
  rw [k4] at s4
  rw [k5] at s5
  rw [k6] at s6
  rw [k7] at s7
  unfold checksum_number.f
  rcases h1 with rfl | rfl | rfl
  · rw [if_pos (by omega)]
    simp only [TAB1, show 8 - Int.toNat ((2 : Nat) : Int) = 6 from rfl, List.drop_succ_cons, List.drop_zero, List.map_cons, List.map_nil, s0, s1, beN]
  · rw [if_pos (by omega)]
    simp only [TAB1, show 8 - Int.toNat ((4 : Nat) : Int) = 4 from rfl, List.drop_succ_cons, List.drop_zero, List.map_cons, List.map_nil, s0, s1, s2, s3, beN]
  · rw [if_pos (by omega)]
    simp only [TAB1, show 8 - Int.toNat ((8 : Nat) : Int) = 0 from rfl, List.drop_zero, List.map_cons, List.map_nil, s0, s1, s2, s3, s4, s5, s6, s7, beN]
theorem beN_top : ∀ (i j : Nat) (n : Int), beN (i + j) n = beN i (n / 256 ^ j) ++ beN j n
  | 0, j, n => by simp [beN]
  | i + 1, j, n => by
    rw [show i + 1 + j = (i + j) + 1 by omega, beN, beN_top i j n, beN, Int.pow_add, Int.mul_comm, ← Int.ediv_ediv_of_nonneg (Int.le_of_lt (Int.pow_pos (by decide)))]
    rfl
/-- The bytes of an address. -/
def addrOf (v6 : Bool) (hi lo : Int) : List Int := if v6 = true then beN 8 hi ++ beN 8 lo else beN 4 lo
theorem addrOf_len (v6 : Bool) (hi lo : Int) : (addrOf v6 hi lo).length ≤ 16 := by unfold addrOf; split <;> simp [beN_length]
/-- Whether an address is one. -/
def okAddr (v6 : Bool) (hi lo : Int) : Prop := v6 = true ∨ (hi = 0 ∧ lo < 4294967296)
instance (v6 : Bool) (hi lo : Int) : Decidable (okAddr v6 hi lo) := by unfold okAddr; infer_instance
theorem valid_is (v6 : Bool) (hi lo : Int) : checksum_valid.f v6 hi lo = some (decide (okAddr v6 hi lo)) := by
  unfold checksum_valid.f okAddr
  by_cases h : v6 = true
  · simp [h]
  · by_cases h2 : hi = 0 <;> simp [h, h2]
/-- The pseudo-header. -/
def pseudoOf (v6 : Bool) (hi lo : Int) (w6 : Bool) (hj lp : Int) (proto size : Int) : ByteArray :=
  if okAddr v6 hi lo ∧ okAddr w6 hj lp ∧ v6 = w6 ∧ 0 ≤ proto ∧ proto ≤ 255 ∧ 0 ≤ size ∧ size ≤ (if v6 = true then 4294967295 else 65535) then
    (if v6 = true then strOfNums (addrOf v6 hi lo ++ addrOf w6 hj lp ++ beN 4 size ++ beN 4 proto) else strOfNums (addrOf v6 hi lo ++ addrOf w6 hj lp ++ beN 2 proto ++ beN 2 size))
  else ⟨#[]⟩
theorem u64w {n : Int} (h : 0 ≤ n) (h' : n < 18446744073709551616) : IntKind.u64.wrap n = n := u64_wrap_id n h h'
theorem pseudo_bad (k : Nat) (a b : Int) (c : Bool) (d e : Int) (f : Bool) (g h : Int) : checksum_Pseudo.j1 (k + 1) a b true c d e f g h = some ⟨#[]⟩ := by
  rw [checksum_Pseudo.j1, if_pos rfl]
theorem pseudo_is (v6 : Bool) (hi lo : Int) (w6 : Bool) (hj lp : Int) (proto size : Int) (h0 : 0 ≤ hi) (h1 : hi < 18446744073709551616) (h2 : 0 ≤ lo) (h3 : lo < 18446744073709551616)
    (g0 : 0 ≤ hj) (g1 : hj < 18446744073709551616) (g2 : 0 ≤ lp) (g3 : lp < 18446744073709551616) (k : Nat) (hk : 3 ≤ k) :
    checksum_Pseudo.f k v6 hi lo w6 hj lp proto size = some (pseudoOf v6 hi lo w6 hj lp proto size) := by
  obtain ⟨k, rfl⟩ : ∃ m, k = m + 2 := ⟨k - 2, by omega⟩
  have J : ∀ lim : Int, lim = (if v6 = true then 4294967295 else 65535) → checksum_Pseudo.j0 (k + 2) proto size lim v6 hi lo w6 hj lp = some (pseudoOf v6 hi lo w6 hj lp proto size) := by
    intro lim hlim
    unfold pseudoOf
    rw [← hlim, checksum_Pseudo.j0, valid_is, valid_is]
    simp only [Option.bind_some, decide_eq_true_eq]
    by_cases c1 : okAddr v6 hi lo
    · rw [if_pos c1]
      by_cases c2 : okAddr w6 hj lp
      · rw [if_pos c2]
        by_cases c3 : v6 = w6
        · subst c3
          rw [if_neg (by simp)]
          by_cases c4 : proto < 0
          · rw [if_pos c4, pseudo_bad, if_neg (by omega)]
          · rw [if_neg c4]
            by_cases c5 : proto > 255
            · rw [if_pos c5, pseudo_bad, if_neg (by omega)]
            · rw [if_neg c5]
              by_cases c6 : size < 0
              · rw [if_pos c6, pseudo_bad, if_neg (by omega)]
              · rw [if_neg c6]
                by_cases c7 : size > lim
                · rw [decide_eq_true c7, pseudo_bad, if_neg (by omega)]
                · rw [decide_eq_false c7, if_pos ⟨c1, c2, rfl, by omega, by omega, by omega, by omega⟩, checksum_Pseudo.j1, if_neg (by simp)]
                  have hs : size ≤ 4294967295 := by split at hlim <;> omega
                  rw [u64w (n := size) (by omega) (by omega), u64w (n := proto) (by omega) (by omega)]
                  cases v6 with
                  | true =>
                    have n1 := number_tab hi h0 h1 8 (by omega)
                    have n2 := number_tab lo h2 h3 8 (by omega)
                    have n3 := number_tab hj g0 g1 8 (by omega)
                    have n4 := number_tab lp g2 g3 8 (by omega)
                    have n5 := number_tab size (by omega) (by omega) 4 (by omega)
                    have n6 := number_tab proto (by omega) (by omega) 4 (by omega)
                    simp only [cast4, cast8] at n1 n2 n3 n4 n5 n6
                    simp only [if_true, n1, n2, n3, n4, n5, n6, Option.bind_some, size_append, strOfNums_size, beN_length, addrOf, ← strOfNums_append]
                    simp
                  | false =>
                    have n2 := number_tab lo h2 h3 4 (by omega)
                    have n4 := number_tab lp g2 g3 4 (by omega)
                    have n5 := number_tab size (by omega) (by omega) 2 (by omega)
                    have n6 := number_tab proto (by omega) (by omega) 2 (by omega)
                    simp only [cast2, cast4] at n2 n4 n5 n6
                    simp only [Bool.false_eq_true, if_false, n2, n4, n5, n6, Option.bind_some, size_append, strOfNums_size, beN_length, addrOf, ← strOfNums_append]
                    simp
        · rw [if_pos (by simpa using c3), pseudo_bad, if_neg (fun h => c3 h.2.2.1)]
      · rw [if_neg c2, pseudo_bad, if_neg (fun h => c2 h.2.1)]
    · rw [if_neg c1, pseudo_bad, if_neg (fun h => c1 h.1)]
  unfold checksum_Pseudo.f
  split
  · rename_i h
    exact J _ (by rw [if_pos h])
  · rename_i h
    exact J _ (by rw [if_neg h])
end Go.Proofs.YtocobalkikkhlaaDoor.Pure

/-! ### UdpB -/
namespace Go.Proofs.YtocobalkikkhlaaDoor.Pure
open Go.RowKit Go.Proofs.YtocobalkikkhlaaDoor.X Go.Proofs.YtocobalkikkhlaaDoorW.PrintWords Go.Proofs.YtocobalkikkhlaaDoorW.PrintLast Go.Proofs.YtocobalkikkhlaaDoorW.PrintMore

/-- Two addresses that fit. -/
def okFit (v6 : Bool) (hi lo : Int) (w6 : Bool) (hj lp : Int) : Prop := okAddr v6 hi lo ∧ okAddr w6 hj lp ∧ v6 = w6
instance (v6 : Bool) (hi lo : Int) (w6 : Bool) (hj lp : Int) : Decidable (okFit v6 hi lo w6 hj lp) := by unfold okFit; infer_instance
theorem avalid_is (v6 : Bool) (hi lo : Int) : address_Valid.f v6 hi lo = some (decide (okAddr v6 hi lo)) := by
  unfold address_Valid.f okAddr
  by_cases h : v6 = true
  · simp [h]
  · by_cases h2 : hi = 0
    · rw [if_neg h, if_pos h2]
      congr 1
      apply decide_eq_decide.mpr
      constructor
      · intro h3; exact .inr ⟨h2, by omega⟩
      · rintro (h3 | h3)
        · exact absurd h3 h
        · omega
    · simp [h, h2]
theorem fit_is (v6 : Bool) (hi lo : Int) (w6 : Bool) (hj lp : Int) : udp_ends_fit.f v6 hi lo w6 hj lp = some (decide (okFit v6 hi lo w6 hj lp)) := by
  unfold udp_ends_fit.f okFit
  rw [avalid_is, avalid_is]
  simp only [bs, decide_eq_true_eq]
  by_cases c1 : okAddr v6 hi lo
  · rw [if_pos c1]
    by_cases c2 : okAddr w6 hj lp
    · rw [if_pos c2]
      by_cases c3 : v6 = w6
      · subst c3
        split <;> simp [c1, c2]
      · rw [if_neg (by simp [c3])]
        simp [c3]
    · rw [if_neg c2]; simp [c2]
  · rw [if_neg c1]; simp [c1]
/-- The checksum is never 0. -/
def nz (n : Int) : Int := if n = 0 then 65535 else n
def zz : ByteArray := ⟨#[0, 0]⟩
/-- The checksum of a datagram whose checksum is 0. -/
def sumU (v6 : Bool) (hi lo : Int) (w6 : Bool) (hj lp : Int) (s : ByteArray) : Int := nz (sumOf (pseudoOf v6 hi lo w6 hj lp 17 s.size ++ s))
/-- A datagram with its checksum made 0. -/
def zeroed (s : ByteArray) : ByteArray := s.extract 0 6 ++ zz ++ s.extract 8 s.size
theorem zeroed_size (s : ByteArray) (h : 8 ≤ s.size) : (zeroed s).size = s.size := by
  have z : zz.size = 2 := rfl
  unfold zeroed
  rw [size_append, size_append, z]
  simp; omega
theorem pseudo_len (v6 : Bool) (hi lo : Int) (w6 : Bool) (hj lp : Int) (p s : Int) : (pseudoOf v6 hi lo w6 hj lp p s).size ≤ 40 := by
  have a := addrOf_len v6 hi lo
  have b := addrOf_len w6 hj lp
  have z : (⟨#[]⟩ : ByteArray).size = 0 := rfl
  unfold pseudoOf
  repeat' split
  all_goals first
    | (rw [z]; omega)
    | (rw [strOfNums_size]; simp only [List.length_append, beN_length]; omega)
structure Addrs (hi lo hj lp : Int) : Prop where
  h0 : 0 ≤ hi
  h1 : hi < 18446744073709551616
  h2 : 0 ≤ lo
  h3 : lo < 18446744073709551616
  g0 : 0 ≤ hj
  g1 : hj < 18446744073709551616
  g2 : 0 ≤ lp
  g3 : lp < 18446744073709551616
theorem sum13_is (v6 : Bool) (hi lo : Int) (w6 : Bool) (hj lp : Int) (A : Addrs hi lo hj lp) (s : ByteArray) (h8 : 8 ≤ s.size) (hs : s.size ≤ 1099511627776) (k : Nat) (hk : s.size + 60 ≤ k) :
    udp_ends_sum.f k v6 hi lo w6 hj lp s = some (sumU v6 hi lo w6 hj lp (zeroed s)) := by
  unfold udp_ends_sum.f
  have pl := pseudo_len v6 hi lo w6 hj lp 17 (s.size : Int)
  have z : (⟨#[0, 0]⟩ : ByteArray).size = 2 := rfl
  have e1 : (s.extract 0 6).size = 6 := by simp; omega
  have e2 : (s.extract 8 s.size).size = s.size - 8 := by simp
  rw [pseudo_is v6 hi lo w6 hj lp 17 _ A.h0 A.h1 A.h2 A.h3 A.g0 A.g1 A.g2 A.g3 k (by omega)]
  simp only [bs]
  have q : (pseudoOf v6 hi lo w6 hj lp 17 ↑s.size ++ s.extract 0 6).size = (pseudoOf v6 hi lo w6 hj lp 17 ↑s.size).size + 6 := by rw [size_append, e1]
  have q2 : (pseudoOf v6 hi lo w6 hj lp 17 ↑s.size ++ s.extract 0 6 ++ (⟨#[0, 0]⟩ : ByteArray)).size = (pseudoOf v6 hi lo w6 hj lp 17 ↑s.size).size + 8 := by rw [size_append, q, z]
  have q3 : (pseudoOf v6 hi lo w6 hj lp 17 ↑s.size ++ s.extract 0 6 ++ (⟨#[0, 0]⟩ : ByteArray) ++ s.extract 8 s.size).size = (pseudoOf v6 hi lo w6 hj lp 17 ↑s.size).size + s.size := by rw [size_append, q2, e2]; omega
  rw [if_pos (show (0 : Nat) ≤ 6 by decide), if_pos (show (6 : Int) ≤ (s.size : Int) by omega), if_pos (by rw [e1]; omega), if_pos (by rw [q]; omega), if_pos (show (8 : Int) ≤ (s.size : Int) by omega), if_pos (by rw [q2, e2]; omega), sum_is _ (by rw [q3]; omega) k (by rw [q3]; omega)]
  simp only [bs]
  have e : pseudoOf v6 hi lo w6 hj lp 17 ↑s.size ++ s.extract 0 6 ++ (⟨#[0, 0]⟩ : ByteArray) ++ s.extract 8 s.size = pseudoOf v6 hi lo w6 hj lp 17 ((zeroed s).size : Int) ++ zeroed s := by
    rw [zeroed_size s h8]
    apply bytesOf_inj
    unfold zeroed zz
    simp only [bytesOf_append, List.append_assoc]
  rw [e]
  unfold sumU nz
  split <;> rfl
/-- The 16-bit word at a place. -/
def W (s : ByteArray) (i : Nat) : Int := valBE (bytesOf (s.extract i (i + 2)))
theorem W_range (s : ByteArray) (i : Nat) (h : i + 2 ≤ s.size) : 0 ≤ W s i ∧ W s i < 65536 := by
  have hr := valBE_range _ (bytesOf_range (s.extract i (i + 2)))
  have hb := bytesOf_length (s.extract i (i + 2))
  have hz : (s.extract i (i + 2)).size = 2 := by simp; omega
  rw [hb, hz] at hr
  exact hr
/-- Decode in closed form. -/
def decU (v6 : Bool) (hi lo : Int) (w6 : Bool) (hj lp : Int) (s : ByteArray) : Int × Int × ByteArray × Int :=
  if ¬ okFit v6 hi lo w6 hj lp then (0, 0, ⟨#[]⟩, 13)
  else if s.size < 8 then (0, 0, ⟨#[]⟩, 1)
  else if W s 4 < 8 then (0, 0, ⟨#[]⟩, 2)
  else if W s 4 > (s.size : Int) then (0, 0, ⟨#[]⟩, 1)
  else if W s 6 ≠ sumU v6 hi lo w6 hj lp (zeroed (s.extract 0 (W s 4).toNat)) ∧ (W s 6 ≠ 0 ∨ v6 = true) then (0, 0, ⟨#[]⟩, 8)
  else (W s 0, W s 2, s.extract 8 (W s 4).toNat, 0)
theorem int2 (s : ByteArray) (i : Nat) (k : Nat) (hs : s.size ≤ 1099511627776) (hi : i + 2 ≤ s.size) (hk : 8 ≤ k) : field_Reader_Int.f k s (i : Int) 0 2 = some (W s i, s, ((i + 2 : Nat) : Int), 0) := by
  have h := int_is s i 2 0 k (by omega) (by omega) (by omega) (by omega) hk
  rw [show (((2 : Nat)) : Int) = 2 from rfl, if_pos rfl, if_neg (by omega)] at h
  exact h
theorem decode_is (v6 : Bool) (hi lo : Int) (w6 : Bool) (hj lp : Int) (A : Addrs hi lo hj lp) (s : ByteArray) (hs : s.size ≤ 1099511627776) (k : Nat) (hk : s.size + 70 ≤ k) :
    udp_Decode.f k v6 hi lo w6 hj lp s = some (decU v6 hi lo w6 hj lp s) := by
  unfold udp_Decode.f decU field_NewReader.f
  rw [fit_is]
  simp only [bs, decide_eq_true_eq]
  by_cases c0 : okFit v6 hi lo w6 hj lp
  · rw [if_pos c0, if_neg (show ¬ ¬ okFit v6 hi lo w6 hj lp from fun h => h c0)]
    by_cases c1 : (s.size : Int) < 8
    · rw [if_pos c1, if_pos (by omega)]
    · have r0 := int2 s 0 k hs (by omega) (by omega)
      have r2 := int2 s 2 k hs (by omega) (by omega)
      have r4 := int2 s 4 k hs (by omega) (by omega)
      have r6 := int2 s 6 k hs (by omega) (by omega)
      rw [show (((0 : Nat)) : Int) = 0 from rfl] at r0
      have w4 := W_range s 4 (by omega)
      rw [if_neg c1, if_neg (show ¬ s.size < 8 by omega), r0]
      simp only [bs]
      rw [r2]
      simp only [bs]
      rw [r4]
      simp only [bs]
      rw [r6]
      simp only [bs]
      by_cases c2 : W s 4 < 8
      · rw [if_pos c2, if_pos c2]
      · rw [if_neg c2, if_neg c2]
        by_cases c3 : W s 4 > (s.size : Int)
        · rw [if_pos c3, if_pos c3]
        · rw [if_neg c3, if_neg c3]
          have ez : (s.extract 0 (W s 4).toNat).size = (W s 4).toNat := by simp; omega
          have hsum := sum13_is v6 hi lo w6 hj lp A (s.extract 0 (W s 4).toNat) (by omega) (by omega) k (by omega)
          have tl : ∀ b : Bool, udp_Decode.j0 k s (W s 4) b (W s 0) (W s 2) (⟨#[]⟩ : ByteArray) = some (if b = true then (0, 0, ⟨#[]⟩, 8) else (W s 0, W s 2, s.extract 8 (W s 4).toNat, 0)) := by
            intro b
            obtain ⟨k, rfl⟩ : ∃ m, k = m + 1 := ⟨k - 1, by omega⟩
            rw [udp_Decode.j0]
            cases b with
            | true => rfl
            | false => rw [if_neg (by simp), if_pos (by omega), if_pos (by omega), if_neg (by simp)]
          by_cases c4 : W s 6 = 0
          · rw [if_pos c4]
            by_cases c5 : v6 = true
            · rw [if_pos c5, if_pos (by omega), if_pos (by omega), hsum]
              simp only [bs]
              rw [tl]
              by_cases c6 : W s 6 = sumU v6 hi lo w6 hj lp (zeroed (s.extract 0 (W s 4).toNat))
              · rw [if_neg (by simp [c6]), if_neg (fun h => h.1 c6)]
              · rw [if_pos (by simpa using c6), if_pos ⟨c6, .inr c5⟩]
            · rw [if_neg c5, tl, if_neg (by simp), if_neg (fun h => h.2.elim (fun h => h c4) c5)]
          · rw [if_neg c4, if_pos (by omega), if_pos (by omega), hsum]
            simp only [bs]
            rw [tl]
            by_cases c6 : W s 6 = sumU v6 hi lo w6 hj lp (zeroed (s.extract 0 (W s 4).toNat))
            · rw [if_neg (by simp [c6]), if_neg (fun h => h.1 c6)]
            · rw [if_pos (by simpa using c6), if_pos ⟨c6, .inl c4⟩]
  · rw [if_neg c0, if_pos c0]
end Go.Proofs.YtocobalkikkhlaaDoor.Pure

/-! ### ReaderLeft -/
namespace Go.Proofs.YtocobalkikkhlaaDoor.Pure
open Go.RowKit Go.Proofs.YtocobalkikkhlaaDoor.X Go.Proofs.YtocobalkikkhlaaDoorW.PrintWords Go.Proofs.YtocobalkikkhlaaDoorW.PrintLast Go.Proofs.YtocobalkikkhlaaDoorW.PrintMore

theorem left_is (s : ByteArray) (i : Nat) (e : Int) (hs : s.size ≤ 4611686018427387904) (hi : i ≤ s.size) : field_Reader_Left.f s (i : Int) e = some ((s.size : Int) - i, s, (i : Int), e) := by
  unfold field_Reader_Left.f
  rw [w64 (n := (s.size : Int) - i) (by omega) (by omega)]
end Go.Proofs.YtocobalkikkhlaaDoor.Pure

/-! ### Tun -/
set_option linter.unusedVariables false
set_option linter.unusedSimpArgs false
namespace Go.Proofs.YtocobalkikkhlaaDoor.Pure
open Go.RowKit Go.Proofs.YtocobalkikkhlaaDoor.X Go.Proofs.YtocobalkikkhlaaDoorW.PrintWords Go.Proofs.YtocobalkikkhlaaDoorW.PrintLast Go.Proofs.YtocobalkikkhlaaDoorW.PrintMore

theorem andNot_and (x : Int) (h0 : 0 ≤ x) (h1 : x < 65536) : Go.bits .andNot .i64 x 45056 = Go.bits .and .i64 x 20479 := by
  obtain ⟨i, rfl⟩ := Int.eq_ofNat_of_zero_le h0
  show IntKind.i64.wrap ((BitVec.ofInt 64 (i : Int) &&& ~~~BitVec.ofInt 64 ((45056 : Nat) : Int)).toNat : Int) = IntKind.i64.wrap ((BitVec.ofInt 64 (i : Int) &&& BitVec.ofInt 64 ((20479 : Nat) : Int)).toNat : Int)
  rw [BitVec.toNat_and, BitVec.toNat_and, BitVec.toNat_not, ofInt_u64 i (by omega), ofInt_u64 45056 (by omega), ofInt_u64 20479 (by omega)]
  have key : ∀ m : Nat, i &&& m = i &&& (m % 2 ^ 16) := by
    intro m
    have e1 : (i &&& m) % 2 ^ 16 = i &&& m := Nat.mod_eq_of_lt (Nat.lt_of_le_of_lt Nat.and_le_left (by omega))
    rw [← e1, Nat.and_mod_two_pow, Nat.mod_eq_of_lt (show i < 2 ^ 16 by omega)]
  rw [key (2 ^ 64 - 1 - 45056)]
def kdOf (n : Int) : Int := if n = 2048 then 1 else if n = 34525 then 2 else if n = 25944 then 3 else 0
theorem kind_is (n : Int) : tunnel_kindOf.f n = some (kdOf n) := by
  unfold tunnel_kindOf.f kdOf
  split
  · rfl
  · split
    · rfl
    · split <;> rfl
def nOf (fl : Int) : Nat := 4 + (if Go.bits .and .i64 fl 32768 = 0 then 0 else 4) + (if Go.bits .and .i64 fl 8192 = 0 then 0 else 4) + (if Go.bits .and .i64 fl 4096 = 0 then 0 else 4)
/-- What gre answers. -/
def greOf (s : ByteArray) : Int × ByteArray × Int :=
  if s.size < 4 then (0, ⟨#[]⟩, 1)
  else if Go.bits .and .i64 (W s 0) 20479 ≠ 0 ∨ kdOf (W s 2) = 0 then (0, ⟨#[]⟩, 2)
  else if s.size < nOf (W s 0) then (0, ⟨#[]⟩, 1)
  else if Go.bits .and .i64 (W s 0) 32768 ≠ 0 ∧ sumOf s ≠ 0 then (0, ⟨#[]⟩, 8)
  else (kdOf (W s 2), s.extract (nOf (W s 0)) s.size, 0)
/-- Four bytes more are taken, unless b. -/
def adv (s : ByteArray) (b : Prop) [Decidable b] (st : Nat × Int) : Nat × Int := if b then st else if st.2 = 0 then (if s.size < st.1 + 4 then (st.1, 1) else (st.1 + 4, 0)) else st
theorem adv_le (s : ByteArray) (b : Prop) [Decidable b] (st : Nat × Int) (h : st.1 ≤ s.size) : (adv s b st).1 ≤ s.size := by
  unfold adv
  split
  · exact h
  · split
    · split
      · exact h
      · show st.1 + 4 ≤ s.size; omega
    · exact h
theorem take_st (s : ByteArray) (hs : s.size ≤ 1099511627776) (st : Nat × Int) (h : st.1 ≤ s.size) : ∃ x, field_Reader_Take.f s (st.1 : Int) st.2 4 = some (x, s, (((adv s False st).1 : Nat) : Int), (adv s False st).2) := by
  unfold field_Reader_Take.f adv
  rw [show decide ((4 : Int) ≥ 0) = true from rfl, next_is s st.1 st.2 4 (by omega) h (by omega) (by omega), if_neg (show ¬ False from id)]
  by_cases h0 : st.2 = 0
  · rw [if_pos h0, if_pos h0]
    by_cases h1 : (4 : Int) > (s.size : Int) - st.1
    · rw [if_pos h1, if_pos (by omega)]
      exact ⟨_, rfl⟩
    · rw [if_neg h1, if_neg (by omega)]
      refine ⟨s.extract st.1 (st.1 + Int.toNat 4), ?_⟩
      simp only [bs]
      rw [show (st.1 : Int) + 4 = ((st.1 + 4 : Nat) : Int) by omega]
  · rw [if_neg h0, if_neg h0]
    exact ⟨_, rfl⟩
theorem adv_all (s : ByteArray) (h4 : 4 ≤ s.size) (c1 c2 c3 : Prop) [Decidable c1] [Decidable c2] [Decidable c3] :
    (s.size < 4 + (if c1 then 0 else 4) + (if c2 then 0 else 4) + (if c3 then 0 else 4) → (adv s c3 (adv s c2 (adv s c1 (4, 0)))).2 = 1) ∧
    (¬ s.size < 4 + (if c1 then 0 else 4) + (if c2 then 0 else 4) + (if c3 then 0 else 4) → adv s c3 (adv s c2 (adv s c1 (4, 0))) = (4 + (if c1 then 0 else 4) + (if c2 then 0 else 4) + (if c3 then 0 else 4), 0)) := by
  by_cases h1 : c1 <;> by_cases h2 : c2 <;> by_cases h3 : c3 <;> simp only [h1, h2, h3, if_true, if_false, adv] <;> constructor <;> intro h <;> (repeat' split) <;> first | rfl | omega | simp_all | (simp_all; omega)
section
variable (a0 : Bool) (a1 a2 : Int) (a3 : Bool) (a4 a5 a6 a7 : Int) (s : ByteArray)
theorem rest_is (hs : s.size ≤ 1099511627776) (i : Nat) (h : i ≤ s.size) : field_Reader_Rest.f s (i : Int) 0 = some (s.extract i s.size, s, (s.size : Int), 0) := by
  unfold field_Reader_Rest.f
  rw [left_is s i 0 (by omega) h]
  simp only [bs]
  rw [next_is s i 0 _ (by omega) h (by omega) (by omega), if_pos rfl, if_neg (by omega)]
  simp only [bs]
  rw [show i + ((s.size : Int) - (i : Int)).toNat = s.size by omega, show (i : Int) + ((s.size : Int) - (i : Int)) = (s.size : Int) by omega]
theorem gre_end (hs : s.size ≤ 1099511627776) (fl kd : Int) (st : Nat × Int) (h : st.1 ≤ s.size) (k : Nat) (hk : s.size + 10 ≤ k) :
    tunnel_gre.l0 (k + 1) fl kd [32768, 8192, 4096] 3 3 a0 a1 a2 a3 a4 a5 a6 a7 s s (st.1 : Int) st.2
      = some (if st.2 = 0 then (if Go.bits .and .i64 fl 32768 ≠ 0 ∧ sumOf s ≠ 0 then (0, ⟨#[]⟩, 8) else (kd, s.extract st.1 s.size, 0)) else (0, ⟨#[]⟩, st.2)) := by
  rw [tunnel_gre.l0, if_neg (by decide)]
  unfold field_Reader_Err.f
  simp only [bs]
  by_cases h0 : st.2 = 0
  · rw [if_pos h0, if_pos h0, h0, rest_is s hs st.1 h]
    by_cases h1 : Go.bits .and .i64 fl 32768 = 0
    · rw [if_pos h1, if_neg (fun z => z.1 h1)]
      simp only [bs]
    · rw [if_neg h1, sum_is s (by omega) k (by omega)]
      simp only [bs]
      by_cases h2 : sumOf s = 0
      · rw [if_pos h2, if_neg (fun z => z.2 h2)]
      · rw [if_neg h2, if_pos ⟨h1, h2⟩]
  · rw [if_neg h0, if_neg h0]
theorem gre_step (hs : s.size ≤ 1099511627776) (fl kd f : Int) (j : Nat) (hj : j < 3) (hf : rd [32768, 8192, 4096] (j : Int) = f) (st : Nat × Int) (h : st.1 ≤ s.size) (k : Nat) :
    tunnel_gre.l0 (k + 1) fl kd [32768, 8192, 4096] 3 (j : Int) a0 a1 a2 a3 a4 a5 a6 a7 s s (st.1 : Int) st.2
      = tunnel_gre.l0 k fl kd [32768, 8192, 4096] 3 ((j + 1 : Nat) : Int) a0 a1 a2 a3 a4 a5 a6 a7 s s (((adv s (Go.bits .and .i64 fl f = 0) st).1 : Nat) : Int) (adv s (Go.bits .and .i64 fl f = 0) st).2 := by
  have e1 : (j : Int) < 3 := by omega
  have e2 : (0 : Int) ≤ (j : Int) := by omega
  have e3 : (j : Int) < (([32768, 8192, 4096] : List Int).length : Int) := by simp; omega
  rw [tunnel_gre.l0, if_pos e1, if_pos e2, if_pos e3, hf, w64 (n := (j : Int) + 1) (by omega) (by omega), show (j : Int) + 1 = ((j + 1 : Nat) : Int) by omega]
  by_cases h1 : Go.bits .and .i64 fl f = 0
  · rw [if_pos h1]
    unfold adv
    rw [if_pos h1]
  · obtain ⟨x, hx⟩ := take_st s hs st h
    rw [if_neg h1, hx]
    simp only [bs]
    unfold adv
    rw [if_neg h1, if_neg (show ¬ False from id)]
theorem gre_is (hs : s.size ≤ 1099511627776) (k : Nat) (hk : s.size + 60 ≤ k) : tunnel_gre.f k a0 a1 a2 a3 a4 a5 a6 a7 s = some (greOf s) := by
  obtain ⟨q, rfl⟩ : ∃ q, k = (q + 1 + 1 + 1 + 1) + 1 := ⟨k - 5, by omega⟩
  unfold tunnel_gre.f greOf field_NewReader.f field_Reader_Err.f
  simp only [bs]
  by_cases h4 : s.size < 4
  · rw [if_pos h4]
    have i0 := int_is s 0 2 0 (q + 1 + 1 + 1 + 1 + 1) (by omega) (by omega) (by omega) (by omega) (by omega)
    rw [show ((0 : Nat) : Int) = 0 from rfl, show ((2 : Nat) : Int) = 2 from rfl, if_pos rfl] at i0
    rw [i0]
    by_cases h2 : s.size < 0 + 2
    · rw [if_pos h2]
      simp only [bs]
      have i1 := int_is s 0 2 1 (q + 1 + 1 + 1 + 1 + 1) (by omega) (by omega) (by omega) (by omega) (by omega)
      rw [show ((0 : Nat) : Int) = 0 from rfl, show ((2 : Nat) : Int) = 2 from rfl, if_neg (by decide)] at i1
      rw [i1]
      simp only [bs]
      rw [kind_is]
      simp only [bs]
      rw [if_neg (by decide)]
    · rw [if_neg h2]
      simp only [bs]
      have i1 := int_is s 2 2 0 (q + 1 + 1 + 1 + 1 + 1) (by omega) (by omega) (by omega) (by omega) (by omega)
      rw [show ((2 : Nat) : Int) = 2 from rfl, if_pos rfl, if_pos (by omega)] at i1
      rw [i1]
      simp only [bs]
      rw [kind_is]
      simp only [bs]
      rw [if_neg (by decide)]
  · rw [if_neg h4]
    have i0 := int2 s 0 (q + 1 + 1 + 1 + 1 + 1) hs (by omega) (by omega)
    have i2 := int2 s 2 (q + 1 + 1 + 1 + 1 + 1) hs (by omega) (by omega)
    rw [show ((0 : Nat) : Int) = 0 from rfl, show ((0 + 2 : Nat) : Int) = 2 from rfl] at i0
    rw [show ((2 : Nat) : Int) = 2 from rfl, show ((2 + 2 : Nat) : Int) = ((4 : Nat) : Int) from rfl] at i2
    have w0 := W_range s 0 (by omega)
    rw [i0]
    simp only [bs]
    rw [i2]
    simp only [bs]
    rw [kind_is]
    simp only [bs, if_true]
    rw [andNot_and _ w0.1 w0.2]
    have hj : (if Go.bits .and .i64 (W s 0) 20479 = 0 then tunnel_gre.j0 (q + 1 + 1 + 1 + 1 + 1) (W s 0) (kdOf (W s 2)) (kdOf (W s 2) == 0) a0 a1 a2 a3 a4 a5 a6 a7 s s ((4 : Nat) : Int) 0 else tunnel_gre.j0 (q + 1 + 1 + 1 + 1 + 1) (W s 0) (kdOf (W s 2)) true a0 a1 a2 a3 a4 a5 a6 a7 s s ((4 : Nat) : Int) 0)
        = tunnel_gre.j0 (q + 1 + 1 + 1 + 1 + 1) (W s 0) (kdOf (W s 2)) (decide (Go.bits .and .i64 (W s 0) 20479 ≠ 0 ∨ kdOf (W s 2) = 0)) a0 a1 a2 a3 a4 a5 a6 a7 s s ((4 : Nat) : Int) 0 := by
      by_cases c : Go.bits .and .i64 (W s 0) 20479 = 0
      · rw [if_pos c]
        congr 1
        by_cases d : kdOf (W s 2) = 0
        · rw [decide_eq_true (.inr d), beq_iff_eq.mpr d]
        · rw [decide_eq_false (fun z => z.elim (fun y => y c) d), beq_eq_false_iff_ne.mpr d]
      · rw [if_neg c, decide_eq_true (.inl c)]
    rw [hj, tunnel_gre.j0]
    by_cases hb : Go.bits .and .i64 (W s 0) 20479 ≠ 0 ∨ kdOf (W s 2) = 0
    · rw [if_pos (decide_eq_true hb), if_pos hb]
    · rw [if_neg (by rw [decide_eq_true_iff]; exact hb), if_neg hb]
      simp only [bs]
      have s0 := gre_step a0 a1 a2 a3 a4 a5 a6 a7 s hs (W s 0) (kdOf (W s 2)) 32768 0 (by omega) rfl (4, 0) (by show 4 ≤ s.size; omega) (q + 1 + 1 + 1)
      have l1 := adv_le s (Go.bits .and .i64 (W s 0) 32768 = 0) (4, 0) (by show 4 ≤ s.size; omega)
      have s1 := gre_step a0 a1 a2 a3 a4 a5 a6 a7 s hs (W s 0) (kdOf (W s 2)) 8192 1 (by omega) rfl (adv s (Go.bits .and .i64 (W s 0) 32768 = 0) (4, 0)) l1 (q + 1 + 1)
      have l2 := adv_le s (Go.bits .and .i64 (W s 0) 8192 = 0) _ l1
      have s2 := gre_step a0 a1 a2 a3 a4 a5 a6 a7 s hs (W s 0) (kdOf (W s 2)) 4096 2 (by omega) rfl (adv s (Go.bits .and .i64 (W s 0) 8192 = 0) (adv s (Go.bits .and .i64 (W s 0) 32768 = 0) (4, 0))) l2 (q + 1)
      have l3 := adv_le s (Go.bits .and .i64 (W s 0) 4096 = 0) _ l2
      have s3 := gre_end a0 a1 a2 a3 a4 a5 a6 a7 s hs (W s 0) (kdOf (W s 2)) _ l3 q (by omega)
      rw [show ((0 + 1 : Nat) : Int) = ((1 : Nat) : Int) from rfl] at s0
      rw [show ((1 + 1 : Nat) : Int) = ((2 : Nat) : Int) from rfl] at s1
      rw [show ((2 + 1 : Nat) : Int) = 3 from rfl] at s2
      have hlen : ((([32768, 8192, 4096] : List Int).length : Nat) : Int) = 3 := rfl
      rw [hlen, show (0 : Int) = ((0 : Nat) : Int) from rfl]
      refine (s0.trans (s1.trans (s2.trans s3))).trans ?_
      have A := adv_all s (by omega) (Go.bits .and .i64 (W s 0) 32768 = 0) (Go.bits .and .i64 (W s 0) 8192 = 0) (Go.bits .and .i64 (W s 0) 4096 = 0)
      by_cases hn : s.size < nOf (W s 0)
      · have e := A.1 hn
        rw [if_pos hn, e, if_neg (by decide)]
        rfl
      · have e := A.2 hn
        rw [if_neg hn, e, if_pos rfl]
        rfl
end
end Go.Proofs.YtocobalkikkhlaaDoor.Pure

/-! ### TunA -/
set_option linter.unusedVariables false
set_option linter.unusedSimpArgs false
namespace Go.Proofs.YtocobalkikkhlaaDoor.Pure
open Go.RowKit Go.Proofs.YtocobalkikkhlaaDoor.X Go.Proofs.YtocobalkikkhlaaDoorW.PrintWords Go.Proofs.YtocobalkikkhlaaDoorW.PrintLast Go.Proofs.YtocobalkikkhlaaDoorW.PrintMore

theorem awake200 : intrusionlaw17_awake.f 200 = some true := by decide +kernel
theorem awake17_is (k : Nat) (hk : 200 ≤ k) : intrusionlaw17_awake.f k = some true := at_rounds intrusionlaw17_awake.mono hk awake200
def vxOf (v6 : Bool) (hi lo : Int) (w6 : Bool) (hj lp : Int) (s : ByteArray) : Int × ByteArray × Int :=
  if s.size < 4 ∨ W s 2 ≠ 4789 then (0, ⟨#[]⟩, 0)
  else if (decU v6 hi lo w6 hj lp s).2.2.2 ≠ 0 then (0, ⟨#[]⟩, (decU v6 hi lo w6 hj lp s).2.2.2)
  else if (decU v6 hi lo w6 hj lp s).2.2.1.size < 8 then (0, ⟨#[]⟩, 1)
  else if ((decU v6 hi lo w6 hj lp s).2.2.1.extract 0 4).toList ≠ ([8, 0, 0, 0] : List UInt8) ∨ bt (decU v6 hi lo w6 hj lp s).2.2.1 7 ≠ 0 then (0, ⟨#[]⟩, 2)
  else (3, (decU v6 hi lo w6 hj lp s).2.2.1.extract 8 (decU v6 hi lo w6 hj lp s).2.2.1.size, 0)
theorem vxlan_is (v6 : Bool) (hi lo : Int) (w6 : Bool) (hj lp : Int) (A : Addrs hi lo hj lp) (pr tt : Int) (s : ByteArray) (hs : s.size ≤ 1099511627776) (k : Nat) (hk : s.size + 90 ≤ k) :
    tunnel_vxlan.f k v6 hi lo w6 hj lp pr tt s = some (vxOf v6 hi lo w6 hj lp s) := by
  obtain ⟨q, rfl⟩ : ∃ q, k = q + 1 := ⟨k - 1, by omega⟩
  unfold tunnel_vxlan.f vxOf field_Get.f
  rw [if_pos (by omega), if_neg (by omega)]
  by_cases h4 : s.size < 4
  · rw [if_pos (by omega), if_pos (.inl h4)]
    simp only [bs]
    rw [if_neg (by decide), tunnel_vxlan.j0, if_pos rfl]
  · have e2 : bytesOf (s.extract (Int.toNat 2) (Int.toNat (2 + 2))) = bytesOf (s.extract 2 4) := rfl
    have ew : valBE (bytesOf (s.extract 2 4)) = W s 2 := rfl
    rw [if_neg (by omega), e2, number_is _ (bytesOf_range _) (by rw [bytesOf_length, ByteArray.size_extract]; omega) _ (by omega), ew]
    simp only [bs, if_true]
    rw [tunnel_vxlan.j0]
    by_cases hp : W s 2 = 4789
    · rw [if_neg (by simp [hp]), if_neg (show ¬ (s.size < 4 ∨ W s 2 ≠ 4789) from fun z => z.elim h4 (fun y => y hp)), decode_is v6 hi lo w6 hj lp A s hs q (by omega)]
      simp only [bs]
      generalize decU v6 hi lo w6 hj lp s = u
      by_cases e : u.2.2.2 = 0
      · rw [if_pos e, if_neg (show ¬ u.2.2.2 ≠ 0 from fun z => z e)]
        by_cases h8 : u.2.2.1.size < 8
        · rw [if_pos (by omega), if_pos h8]
        · rw [if_neg (by omega), if_neg h8, if_pos (by decide), if_pos (by omega)]
          by_cases c1 : (u.2.2.1.extract 0 4).toList = ([8, 0, 0, 0] : List UInt8)
          · rw [if_pos c1, if_pos (by omega)]
            by_cases c2 : bt u.2.2.1 7 = 0
            · rw [if_pos c2, if_pos (by omega), if_neg (show ¬ ((u.2.2.1.extract 0 4).toList ≠ ([8, 0, 0, 0] : List UInt8) ∨ bt u.2.2.1 7 ≠ 0) from fun z => z.elim (fun y => y c1) (fun y => y c2))]
            · rw [if_neg c2, if_pos (show (u.2.2.1.extract 0 4).toList ≠ ([8, 0, 0, 0] : List UInt8) ∨ bt u.2.2.1 7 ≠ 0 from .inr c2)]
          · rw [if_neg c1, if_pos (show (u.2.2.1.extract 0 4).toList ≠ ([8, 0, 0, 0] : List UInt8) ∨ bt u.2.2.1 7 ≠ 0 from .inl c1)]
      · rw [if_neg e, if_pos (show u.2.2.2 ≠ 0 from e)]
    · rw [if_pos (by simp [hp]), if_pos (show s.size < 4 ∨ W s 2 ≠ 4789 from .inr hp)]
def plOf (v kind : Int) (s : ByteArray) : Int × ByteArray × Int := if s.size = 0 then (0, ⟨#[]⟩, 1) else if bt s 0 / 16 = v then (kind, s, 0) else (0, ⟨#[]⟩, 2)
theorem toList_data (s : ByteArray) : s.toList = s.data.toList := ByteArray.toList_eq s
theorem toList_nil (s : ByteArray) : s.toList = ([] : List UInt8) ↔ s.size = 0 := by
  rw [toList_data]
  constructor
  · intro h
    show s.data.size = 0
    rw [← Array.length_toList, h]
    rfl
  · intro h
    exact List.eq_nil_of_length_eq_zero (by rw [Array.length_toList]; exact h)
theorem plO_is (v kind : Int) (s : ByteArray) : plO v kind s = some (plOf v kind s) := by
  unfold plO plOf
  by_cases h : s.size = 0
  · rw [if_pos ((toList_nil s).mpr h), if_pos h]
  · rw [if_neg (fun z => h ((toList_nil s).mp z)), if_neg h, if_pos (by omega)]
    split <;> rfl
/-- What Inner answers. -/
def innerOf (v6 : Bool) (hi lo : Int) (w6 : Bool) (hj lp : Int) (pr : Int) (s : ByteArray) : Int × ByteArray × Int :=
  if pr = 4 then plOf 4 1 s else if pr = 41 then plOf 6 2 s else if pr = 47 then greOf s else if pr = 17 then vxOf v6 hi lo w6 hj lp s else (0, ⟨#[]⟩, 0)
theorem inner_is (v6 : Bool) (hi lo : Int) (w6 : Bool) (hj lp : Int) (A : Addrs hi lo hj lp) (pr tt : Int) (s : ByteArray) (hs : s.size ≤ 1099511627776) (k : Nat) (hk : s.size + 100 ≤ k) :
    tunnel_Inner.f k v6 hi lo w6 hj lp pr tt s = some (innerOf v6 hi lo w6 hj lp pr s) := by
  unfold tunnel_Inner.f innerOf
  by_cases h1 : pr = 4
  · rw [if_pos h1.symm, if_pos h1, plO_is]
  · rw [if_neg (fun z => h1 z.symm), if_neg h1]
    by_cases h2 : pr = 41
    · rw [if_pos h2.symm, if_pos h2, plO_is]
    · rw [if_neg (fun z => h2 z.symm), if_neg h2]
      by_cases h3 : pr = 47
      · rw [if_pos h3.symm, if_pos h3, gre_is v6 hi lo w6 hj lp pr tt s hs k (by omega)]
      · rw [if_neg (fun z => h3 z.symm), if_neg h3]
        by_cases h4 : pr = 17
        · rw [if_pos h4.symm, if_pos h4, vxlan_is v6 hi lo w6 hj lp A pr tt s hs k (by omega)]
        · rw [if_neg (fun z => h4 z.symm), if_neg h4]
end Go.Proofs.YtocobalkikkhlaaDoor.Pure

/-! ### UdpE -/
namespace Go.Proofs.YtocobalkikkhlaaDoor.Pure
open Go.RowKit Go.Proofs.YtocobalkikkhlaaDoor.X Go.Proofs.YtocobalkikkhlaaDoorW.PrintWords Go.Proofs.YtocobalkikkhlaaDoorW.PrintLast Go.Proofs.YtocobalkikkhlaaDoorW.PrintMore

def hd6 (sp dp n : Int) : List Int := beN 2 sp ++ beN 2 dp ++ beN 2 n
theorem hd6_len (sp dp n : Int) : (hd6 sp dp n).length = 6 := by simp [hd6, beN_length]
theorem hd6_range (sp dp n : Int) : ∀ x ∈ hd6 sp dp n, 0 ≤ x ∧ x < 256 := by
  intro x hx
  simp only [hd6, List.mem_append] at hx
  rcases hx with (hx | hx) | hx <;> exact beN_range _ _ x hx
/-- Encode in closed form. -/
def encU (v6 : Bool) (hi lo : Int) (w6 : Bool) (hj lp : Int) (sp dp : Int) (p : ByteArray) : ByteArray × Int :=
  if ¬ okFit v6 hi lo w6 hj lp then (⟨#[]⟩, 13)
  else if sp < 0 ∨ 65535 < sp ∨ dp < 0 ∨ 65535 < dp then (⟨#[]⟩, 4)
  else if 65507 < p.size then (⟨#[]⟩, 3)
  else (strOfNums (hd6 sp dp (8 + p.size) ++ beN 2 (sumU v6 hi lo w6 hj lp (strOfNums (hd6 sp dp (8 + p.size) ++ [0, 0]) ++ p))) ++ p, 0)
theorem put2 (n : Int) (h0 : 0 ≤ n) (h1 : n < 65536) : putOf n 2 = strOfNums (beN 2 n) := by
  unfold putOf
  rw [if_pos ⟨by decide, by decide, h0, by simpa using h1⟩]
  rfl
theorem zero_mid (h : List Int) (hh : h.length = 6) (hr : ∀ x ∈ h, 0 ≤ x ∧ x < 256) (a b : Int) (ha : 0 ≤ a ∧ a < 256) (hb : 0 ≤ b ∧ b < 256) (p : ByteArray) :
    zeroed (strOfNums (h ++ [a, b]) ++ p) = strOfNums (h ++ [0, 0]) ++ p := by
  have r1 : ∀ x ∈ h ++ [a, b], 0 ≤ x ∧ x < 256 := by
    intro x hx
    simp only [List.mem_append, List.mem_cons, List.not_mem_nil, or_false] at hx
    rcases hx with hx | rfl | rfl
    · exact hr x hx
    · exact ha
    · exact hb
  have r2 : ∀ x ∈ h ++ [0, 0], 0 ≤ x ∧ x < 256 := by
    intro x hx
    simp only [List.mem_append, List.mem_cons, List.not_mem_nil, or_false] at hx
    rcases hx with hx | rfl | rfl
    · exact hr x hx
    · decide
    · decide
  have hp := bytesOf_length p
  have hs : (strOfNums (h ++ [a, b]) ++ p).size = 8 + p.size := by rw [size_append, strOfNums_size]; simp [hh]
  apply bytesOf_inj
  have zb : bytesOf zz = [0, 0] := rfl
  unfold zeroed
  rw [hs, bytesOf_append, bytesOf_append, bytesOf_extract, bytesOf_extract, zb, bytesOf_append, bytesOf_append, bytesOf_strOfNums _ r1, bytesOf_strOfNums _ r2]
  have e1 : List.take (6 - 0) (List.drop 0 (h ++ [a, b] ++ bytesOf p)) = h := by
    rw [List.drop_zero, List.append_assoc, List.take_left' (by omega)]
  have e2 : List.take (8 + p.size - 8) (List.drop 8 (h ++ [a, b] ++ bytesOf p)) = bytesOf p := by
    rw [List.drop_left' (by simp [hh]), List.take_of_length_le (by omega)]
  rw [e1, e2]
theorem nz_range (n : Int) (h : 0 ≤ n ∧ n ≤ 65535) : 1 ≤ nz n ∧ nz n ≤ 65535 := by unfold nz; split <;> omega
theorem sumU_range (v6 : Bool) (hi lo : Int) (w6 : Bool) (hj lp : Int) (s : ByteArray) : 1 ≤ sumU v6 hi lo w6 hj lp s ∧ sumU v6 hi lo w6 hj lp s ≤ 65535 := nz_range _ (sumOf_range _)
theorem port_is (n : Int) : udp_port.f n = some (decide (0 ≤ n ∧ n ≤ 65535)) := by
  unfold udp_port.f
  by_cases h : n ≥ 0
  · rw [if_pos h]
    congr 1
    apply decide_eq_decide.mpr
    omega
  · rw [if_neg h, decide_eq_false (by omega)]
theorem encode_is (v6 : Bool) (hi lo : Int) (w6 : Bool) (hj lp : Int) (A : Addrs hi lo hj lp) (sp dp : Int) (p : ByteArray) (k : Nat) (hk : p.size + 100 ≤ k ∨ 65507 < p.size ∧ 100 ≤ k) :
    udp_Encode.f k v6 hi lo w6 hj lp sp dp p = some (encU v6 hi lo w6 hj lp sp dp p) := by
  obtain ⟨k, rfl⟩ : ∃ m, k = m + 1 := ⟨k - 1, by omega⟩
  unfold udp_Encode.f encU
  have bad : udp_Encode.j0 (k + 1) true sp dp p v6 hi lo w6 hj lp = some (⟨#[]⟩, 4) := by rw [udp_Encode.j0, if_pos rfl]
  rw [fit_is]
  simp only [bs, decide_eq_true_eq]
  by_cases c0 : okFit v6 hi lo w6 hj lp
  · rw [if_pos c0, if_neg (show ¬ ¬ okFit v6 hi lo w6 hj lp from fun h => h c0), port_is, port_is]
    simp only [bs, decide_eq_true_eq]
    by_cases c1 : 0 ≤ sp ∧ sp ≤ 65535
    · rw [if_pos c1]
      by_cases c2 : 0 ≤ dp ∧ dp ≤ 65535
      · rw [decide_eq_true c2, if_neg (by omega), udp_Encode.j0, if_neg (by simp)]
        by_cases c3 : (p.size : Int) > 65507
        · rw [if_pos c3, if_pos (by omega)]
        · rw [if_neg c3, if_neg (show ¬ 65507 < p.size by omega), w64 (n := 8 + (p.size : Int)) (by omega) (by omega)]
          have z2 : (⟨#[0, 0]⟩ : ByteArray) = strOfNums [0, 0] := by decide +kernel
          have L2 : ∀ x : Int, (strOfNums (beN 2 x)).size = 2 := fun x => by rw [strOfNums_size, beN_length]
          have hl := hd6_len sp dp (8 + p.size)
          have eH : strOfNums (beN 2 sp) ++ strOfNums (beN 2 dp) ++ strOfNums (beN 2 (8 + (p.size : Int))) = strOfNums (hd6 sp dp (8 + p.size)) := by
            rw [← strOfNums_append, ← strOfNums_append]; rfl
          have hH : (strOfNums (hd6 sp dp (8 + (p.size : Int)))).size = 6 := by rw [strOfNums_size, hl]
          have hX : (strOfNums (hd6 sp dp (8 + (p.size : Int)) ++ [0, 0]) ++ p).size = 8 + p.size := by rw [size_append, strOfNums_size]; simp [hl]
          have hz := zero_mid (hd6 sp dp (8 + p.size)) hl (hd6_range _ _ _) 0 0 (by decide) (by decide) p
          have hr := sumU_range v6 hi lo w6 hj lp (strOfNums (hd6 sp dp (8 + p.size) ++ [0, 0]) ++ p)
          rw [put_is _ _ _ (by omega), put_is _ _ _ (by omega), put2 sp c1.1 (by omega), put2 dp c2.1 (by omega)]
          simp only [bs]
          rw [if_pos (by rw [L2, L2]; omega), put_is _ _ _ (by omega), put2 (8 + (p.size : Int)) (by omega) (by omega)]
          simp only [bs]
          rw [if_pos (by rw [size_append, L2, L2, L2]; omega), eH, if_pos (by rw [hH]; omega), z2, ← strOfNums_append, if_pos (by rw [strOfNums_size]; simp [hl]; omega), sum13_is v6 hi lo w6 hj lp A _ (by omega) (by omega) k (by omega), hz]
          simp only [bs]
          rw [put_is _ _ _ (by omega), put2 _ (by omega) (by omega)]
          simp only [bs]
          rw [if_pos (by rw [hH, L2]; omega), ← strOfNums_append, if_pos (by rw [strOfNums_size, List.length_append, hl, beN_length]; omega)]
      · rw [decide_eq_false c2, if_pos (by omega)]
        exact bad
    · rw [if_neg c1, bad, if_pos (by omega)]
  · rw [if_neg c0, if_pos c0]
end Go.Proofs.YtocobalkikkhlaaDoor.Pure

/-! ### TunW -/
set_option linter.unusedVariables false
set_option linter.unusedSimpArgs false
namespace Go.Proofs.YtocobalkikkhlaaDoor.Pure
open Go.RowKit Go.Proofs.YtocobalkikkhlaaDoor.X Go.Proofs.YtocobalkikkhlaaDoorW.PrintWords Go.Proofs.YtocobalkikkhlaaDoorW.PrintLast Go.Proofs.YtocobalkikkhlaaDoorW.PrintMore

abbrev DR := Bool × Int × Int × Bool × Int × Int × Int × Int × ByteArray × Int
def badD (e : Int) : DR := (false, 0, 0, false, 0, 0, 0, 0, (⟨#[]⟩ : ByteArray), e)
section
variable (v6 : Bool) (hi lo : Int) (w6 : Bool) (hj lp : Int)
def madeOf (pr : Int) (d : ByteArray) : DR := if (d.size : Int) > 65000 then badD 3 else (v6, hi, lo, w6, hj, lp, pr, 64, d, 0)
theorem related_is : tunnel_related.f v6 hi lo w6 hj lp = some (decide (okFit v6 hi lo w6 hj lp)) := by
  unfold tunnel_related.f
  rw [avalid_is, avalid_is]
  simp only [bs, decide_eq_true_eq]
  by_cases a : okAddr v6 hi lo
  · rw [if_pos a]
    by_cases b : okAddr w6 hj lp
    · rw [if_pos b]
      congr 1
      rw [Bool.eq_iff_iff, beq_iff_eq, decide_eq_true_iff]
      exact ⟨fun z => (⟨a, b, z⟩ : okFit v6 hi lo w6 hj lp), fun z => z.2.2⟩
    · rw [if_neg b, decide_eq_false (fun z : okFit v6 hi lo w6 hj lp => b z.2.1)]
  · rw [if_neg a, decide_eq_false (fun z : okFit v6 hi lo w6 hj lp => a z.1)]
theorem wrapped_is (pr : Int) (d : ByteArray) : tunnel_wrapped.f v6 hi lo w6 hj lp pr d = some (madeOf v6 hi lo w6 hj lp pr d) := by
  unfold tunnel_wrapped.f madeOf
  split <;> rfl
theorem dr_eta (t : DR) : some (t.1, t.2.1, t.2.2.1, t.2.2.2.1, t.2.2.2.2.1, t.2.2.2.2.2.1, t.2.2.2.2.2.2.1, t.2.2.2.2.2.2.2.1, t.2.2.2.2.2.2.2.2.1, t.2.2.2.2.2.2.2.2.2) = some t := rfl
def wiOf (s : ByteArray) : DR :=
  if okFit v6 hi lo w6 hj lp then (if s.size = 0 then badD 2 else if bt s 0 / 16 = 4 then madeOf v6 hi lo w6 hj lp 4 s else if bt s 0 / 16 = 6 then madeOf v6 hi lo w6 hj lp 41 s else badD 2) else badD 13
theorem wrapIp_is (s : ByteArray) (k : Nat) (hk : 5 ≤ k) : tunnel_WrapIp.f k v6 hi lo w6 hj lp s = some (wiOf v6 hi lo w6 hj lp s) := by
  obtain ⟨q, rfl⟩ : ∃ q, k = q + 1 := ⟨k - 1, by omega⟩
  unfold tunnel_WrapIp.f wiOf
  have hj0 : ∀ n : Int, tunnel_WrapIp.j0 (q + 1) s n v6 hi lo w6 hj lp = some (if n = 4 then madeOf v6 hi lo w6 hj lp 4 s else if n = 6 then madeOf v6 hi lo w6 hj lp 41 s else badD 2) := by
    intro n
    rw [tunnel_WrapIp.j0]
    by_cases a : n = 4
    · rw [if_pos a, if_pos a, wrapped_is]
      simp only [bs]
    · rw [if_neg a, if_neg a]
      by_cases b : n = 6
      · rw [if_pos b, if_pos b, wrapped_is]
        simp only [bs]
      · rw [if_neg b, if_neg b]
        rfl
  rw [related_is]
  simp only [bs, decide_eq_true_eq]
  by_cases f : okFit v6 hi lo w6 hj lp
  · rw [if_pos f, if_pos f]
    by_cases z : s.size = 0
    · rw [if_pos ((toList_nil s).mpr z), if_pos z, hj0, if_neg (by decide), if_neg (by decide)]
    · rw [if_neg (fun y => z ((toList_nil s).mp y)), if_neg z, if_pos (by omega), hj0]
  · rw [if_neg f, if_neg f]
    rfl
def vxP (n : Int) (s : ByteArray) : ByteArray := (⟨#[8, 0, 0, 0]⟩ : ByteArray) ++ putOf n 3 ++ (⟨#[0]⟩ : ByteArray) ++ s
theorem vxP_size (n : Int) (s : ByteArray) (h0 : 0 ≤ n) (h1 : n < 16777216) : (putOf n 3).size = 3 ∧ (vxP n s).size = 8 + s.size := by
  have e : (putOf n 3).size = 3 := by
    have h := bytesOf_length (putOf n 3)
    rw [putOf_size n 3 (by omega) (by omega) h0 (by simpa using h1), beN_length] at h
    exact h.symm
  refine ⟨e, ?_⟩
  unfold vxP
  rw [size_append, size_append, size_append, e]
  show 4 + 3 + 1 + s.size = 8 + s.size
  omega
theorem enc_ok (hf : okFit v6 hi lo w6 hj lp) (p : ByteArray) (hp : p.size ≤ 65507) : (encU v6 hi lo w6 hj lp 49152 4789 p).2 = 0 := by
  unfold encU
  rw [if_neg (fun z => z hf), if_neg (by omega), if_neg (by omega)]
def wvOf (n : Int) (s : ByteArray) : DR :=
  if okFit v6 hi lo w6 hj lp then (if n < 0 ∨ 16777215 < n then badD 4 else if (s.size : Int) > 65000 then badD 3 else madeOf v6 hi lo w6 hj lp 17 (encU v6 hi lo w6 hj lp 49152 4789 (vxP n s)).1) else badD 13
theorem wrapVx_is (A : Addrs hi lo hj lp) (n : Int) (s : ByteArray) (hs : s.size ≤ 1099511627776) (k : Nat) (hk : s.size + 200 ≤ k) : tunnel_WrapVxlan.f k v6 hi lo w6 hj lp n s = some (wvOf v6 hi lo w6 hj lp n s) := by
  obtain ⟨q, rfl⟩ : ∃ q, k = q + 1 := ⟨k - 1, by omega⟩
  unfold tunnel_WrapVxlan.f wvOf
  rw [related_is]
  simp only [bs, decide_eq_true_eq]
  by_cases f : okFit v6 hi lo w6 hj lp
  · rw [if_pos f, if_pos f]
    by_cases a : n < 0
    · rw [if_pos a, if_pos (.inl a), tunnel_WrapVxlan.j0, if_pos rfl]
      rfl
    · rw [if_neg a]
      by_cases b : n ≥ 16777216
      · rw [decide_eq_true b, if_pos (show n < 0 ∨ 16777215 < n from .inr (by omega)), tunnel_WrapVxlan.j0, if_pos rfl]
        rfl
      · rw [decide_eq_false b, if_neg (show ¬ (n < 0 ∨ 16777215 < n) by omega), tunnel_WrapVxlan.j0, if_neg (by decide)]
        by_cases c : (s.size : Int) > 65000
        · rw [if_pos c, if_pos c]
          rfl
        · obtain ⟨z1, z2⟩ := vxP_size n s (by omega) (by omega)
          have z3 : ((⟨#[8, 0, 0, 0]⟩ : ByteArray) ++ putOf n 3).size = 7 := by rw [size_append, z1]; rfl
          have z4 : ((⟨#[8, 0, 0, 0]⟩ : ByteArray) ++ putOf n 3 ++ (⟨#[0]⟩ : ByteArray)).size = 8 := by rw [size_append, z3]; rfl
          rw [if_neg c, if_neg c, put_is n 3 q (by omega)]
          simp only [bs]
          rw [if_pos (by omega), if_pos (by omega), if_pos (by omega)]
          have he := encode_is v6 hi lo w6 hj lp A 49152 4789 (vxP n s) q (.inl (by omega))
          unfold vxP at he
          rw [he]
          have ho := enc_ok v6 hi lo w6 hj lp f (vxP n s) (by omega)
          unfold vxP at ho
          simp only [bs]
          rw [if_pos ho, wrapped_is]
          simp only [bs]
          rfl
  · rw [if_neg f, if_neg f]
    rfl
end
end Go.Proofs.YtocobalkikkhlaaDoor.Pure

/-! ### TunG -/
set_option linter.unusedVariables false
set_option linter.unusedSimpArgs false
namespace Go.Proofs.YtocobalkikkhlaaDoor.Pure
open Go.RowKit Go.Proofs.YtocobalkikkhlaaDoor.X Go.Proofs.YtocobalkikkhlaaDoorW.PrintWords Go.Proofs.YtocobalkikkhlaaDoorW.PrintLast Go.Proofs.YtocobalkikkhlaaDoorW.PrintMore

theorem piece17 (s : ByteArray) (a b r : List Int) (h : bytesOf s = a ++ (b ++ r)) (i j : Nat) (hi : a.length = i) (hj : i + b.length = j) : bytesOf (s.extract i j) = b := by
  rw [bytesOf_extract, h, List.drop_left' hi, List.take_left' (by omega)]
theorem val217 (n : Int) (h0 : 0 ≤ n) (h1 : n < 65536) : valBE (beN 2 n) = n := by
  rw [valBE_beN 2 n h0]; exact Int.emod_eq_of_lt h0 (by simpa using h1)
theorem put4 (n : Int) (h0 : 0 ≤ n) (h1 : n < 4294967296) : putOf n 4 = strOfNums (beN 4 n) := by
  unfold putOf
  rw [if_pos ⟨by decide, by decide, h0, by simpa using h1⟩]
  rfl
theorem z2s : (⟨#[0, 0]⟩ : ByteArray) = strOfNums [0, 0] := by decide +kernel
theorem z4s : (⟨#[0, 0, 0, 0]⟩ : ByteArray) = strOfNums [0, 0, 0, 0] := by decide +kernel
def typOf (kind : Int) : Int := if kind = 1 then 2048 else if kind = 2 then 34525 else 25944
theorem typ_rd (kind : Int) (h1 : 1 ≤ kind) (h3 : kind ≤ 3) : rd ([0, 2048, 34525, 25944] : List Int) kind = typOf kind := by
  have : kind = 1 ∨ kind = 2 ∨ kind = 3 := by omega
  rcases this with rfl | rfl | rfl <;> rfl
theorem typ_range (kind : Int) : 0 ≤ typOf kind ∧ typOf kind < 65536 := by unfold typOf; split; omega; split <;> omega
theorem kd_typ (kind : Int) (h1 : 1 ≤ kind) (h3 : kind ≤ 3) : kdOf (typOf kind) = kind := by
  have : kind = 1 ∨ kind = 2 ∨ kind = 3 := by omega
  rcases this with rfl | rfl | rfl <;> rfl
/-- The bytes behind the flags and the type, with the checksum c (none: the empty list). -/
def greL (fl : Int) (kind : Int) (c : List Int) (key : Int) (s : ByteArray) : List Int := beN 2 fl ++ beN 2 (typOf kind) ++ c ++ beN 4 key ++ bytesOf s
def ckOf (kind key : Int) (s : ByteArray) : Int := sumOf (strOfNums (greL 40960 kind [0, 0, 0, 0] key s))
def greP (kind : Int) (s : ByteArray) (key : Int) (sum : Bool) : ByteArray :=
  strOfNums (if sum = true then greL 40960 kind (beN 2 (ckOf kind key s) ++ [0, 0]) key s else greL 8192 kind [] key s)
theorem greL_range (fl kind : Int) (c : List Int) (hc : ∀ x ∈ c, 0 ≤ x ∧ x < 256) (key : Int) (s : ByteArray) : ∀ x ∈ greL fl kind c key s, 0 ≤ x ∧ x < 256 := by
  intro x hx
  unfold greL at hx
  simp only [List.mem_append] at hx
  rcases hx with (((hx | hx) | hx) | hx) | hx
  · exact beN_range _ _ x hx
  · exact beN_range _ _ x hx
  · exact hc x hx
  · exact beN_range _ _ x hx
  · exact bytesOf_range _ x hx
theorem ck_range (kind key : Int) (s : ByteArray) : 0 ≤ ckOf kind key s ∧ ckOf kind key s ≤ 65535 := sumOf_range _
theorem ckl_range (kind key : Int) (s : ByteArray) : ∀ x ∈ beN 2 (ckOf kind key s) ++ [0, 0], 0 ≤ x ∧ x < 256 := by
  intro x hx
  rcases List.mem_append.mp hx with hx | hx
  · exact beN_range _ _ x hx
  · simp at hx; omega
theorem zz_range : ∀ x ∈ ([0, 0, 0, 0] : List Int), 0 ≤ x ∧ x < 256 := by intro x hx; simp at hx; omega
theorem str_back (s : ByteArray) : strOfNums (bytesOf s) = s := bytesOf_inj (bytesOf_strOfNums _ (bytesOf_range s))
section
variable (v6 : Bool) (hi lo : Int) (w6 : Bool) (hj lp : Int)
def wgOf (kind : Int) (s : ByteArray) (key : Int) (sum : Bool) : DR :=
  if okFit v6 hi lo w6 hj lp then (if kind < 1 ∨ 3 < kind then badD 4 else madeOf v6 hi lo w6 hj lp 47 (greP kind s key sum)) else badD 13
theorem wrapGre_is (kind : Int) (s : ByteArray) (hs : s.size ≤ 1152921504606846976) (key : Int) (hk0 : 0 ≤ key) (hk1 : key < 4294967296) (sum : Bool) (k : Nat) (hk : s.size + 100 ≤ k) :
    tunnel_WrapGre.f k v6 hi lo w6 hj lp kind s key sum = some (wgOf v6 hi lo w6 hj lp kind s key sum) := by
  obtain ⟨q, rfl⟩ : ∃ q, k = q + 1 := ⟨k - 1, by omega⟩
  unfold tunnel_WrapGre.f wgOf
  rw [related_is]
  simp only [bs, decide_eq_true_eq]
  by_cases f : okFit v6 hi lo w6 hj lp
  · rw [if_pos f, if_pos f]
    by_cases a : kind < 1
    · rw [if_pos a, if_pos (.inl a), tunnel_WrapGre.j0, if_pos rfl]
      rfl
    · rw [if_neg a]
      by_cases b : kind > 3
      · rw [decide_eq_true b, if_pos (show kind < 1 ∨ 3 < kind from .inr b), tunnel_WrapGre.j0, if_pos rfl]
        rfl
      · have tr := typ_range kind
        have cr := ck_range kind key s
        have L2 : ∀ x : Int, (strOfNums (beN 2 x)).size = 2 := fun x => by rw [strOfNums_size, beN_length]
        have L4 : ∀ x : Int, (strOfNums (beN 4 x)).size = 4 := fun x => by rw [strOfNums_size, beN_length]
        have zs : ∀ l : List Int, (strOfNums l).size = l.length := strOfNums_size
        rw [decide_eq_false b, if_neg (show ¬ (kind < 1 ∨ 3 < kind) by omega), tunnel_WrapGre.j0, if_neg (by decide), if_pos (by omega), if_pos (by omega), w64 (n := key) (by omega) (by omega), put_is key 4 q (by omega), put4 key hk0 hk1, typ_rd kind (by omega) (by omega)]
        simp only [bs]
        rw [if_pos (by rw [L4]; omega)]
        unfold greP
        cases sum with
        | true =>
          rw [if_pos rfl, if_pos rfl, put_is 40960 2 q (by omega), put2 40960 (by omega) (by omega)]
          simp only [bs]
          rw [put_is (typOf kind) 2 q (by omega), put2 _ tr.1 tr.2]
          simp only [bs]
          have eX : strOfNums (beN 2 40960) ++ strOfNums (beN 2 (typOf kind)) ++ (⟨#[0, 0, 0, 0]⟩ : ByteArray) ++ (strOfNums (beN 4 key) ++ s) = strOfNums (greL 40960 kind [0, 0, 0, 0] key s) := by
            unfold greL
            rw [z4s, strOfNums_append, strOfNums_append, strOfNums_append, strOfNums_append, str_back]
            apply bytesOf_inj
            simp only [bytesOf_append, List.append_assoc]
          have zX : (strOfNums (greL 40960 kind [0, 0, 0, 0] key s)).size = 12 + s.size := by
            rw [zs]; unfold greL; have := bytesOf_length s; simp [beN_length]; omega
          rw [if_pos (by rw [L2, L2]; omega), if_pos (by rw [size_append, L2, L2]; omega), if_pos (by rw [size_append, size_append, size_append, L2, L2, L4, z4s, zs]; simp; omega), eX, sum_is _ (by omega) q (by omega)]
          simp only [bs]
          rw [show sumOf (strOfNums (greL 40960 kind [0, 0, 0, 0] key s)) = ckOf kind key s from rfl, put_is (ckOf kind key s) 2 q (by omega), put2 _ cr.1 (by omega)]
          simp only [bs]
          have eY : strOfNums (beN 2 40960) ++ strOfNums (beN 2 (typOf kind)) ++ strOfNums (beN 2 (ckOf kind key s)) ++ (⟨#[0, 0]⟩ : ByteArray) ++ (strOfNums (beN 4 key) ++ s) = strOfNums (greL 40960 kind (beN 2 (ckOf kind key s) ++ [0, 0]) key s) := by
            unfold greL
            rw [z2s, strOfNums_append, strOfNums_append, strOfNums_append, strOfNums_append, strOfNums_append, str_back]
            apply bytesOf_inj
            simp only [bytesOf_append, List.append_assoc]
          rw [if_pos (by rw [size_append, L2, L2, L2]; omega), if_pos (by rw [size_append, size_append, L2, L2, L2]; omega), if_pos (by rw [size_append, size_append, size_append, size_append, L2, L2, L2, L4, z2s, zs]; simp; omega), eY, wrapped_is]
          simp only [bs]
        | false =>
          rw [if_neg (by decide), if_neg (by decide), put_is 8192 2 q (by omega), put2 8192 (by omega) (by omega)]
          simp only [bs]
          rw [put_is (typOf kind) 2 q (by omega), put2 _ tr.1 tr.2]
          simp only [bs]
          have eY : strOfNums (beN 2 8192) ++ strOfNums (beN 2 (typOf kind)) ++ (strOfNums (beN 4 key) ++ s) = strOfNums (greL 8192 kind [] key s) := by
            unfold greL
            rw [List.append_nil, strOfNums_append, strOfNums_append, strOfNums_append, str_back]
            apply bytesOf_inj
            simp only [bytesOf_append, List.append_assoc]
          rw [if_pos (by rw [L2, L2]; omega), if_pos (by rw [size_append, size_append, L2, L2, L4]; omega), eY, wrapped_is]
          simp only [bs]
  · rw [if_neg f, if_neg f]
    rfl
end
theorem tot_two (n : Int) (h0 : 0 ≤ n) (h1 : n < 65536) : tot (beN 2 n) = n := by
  show n / 256 ^ 1 % 256 * 256 + n / 256 ^ 0 % 256 + 0 = n
  omega
/-- The sum of a string with its checksum is 0. -/
theorem sum_zero (kind key : Int) (s : ByteArray) : sumOf (strOfNums (greL 40960 kind (beN 2 (ckOf kind key s) ++ [0, 0]) key s)) = 0 := by
  have cr := ck_range kind key s
  have e1 : tot (greL 40960 kind (beN 2 (ckOf kind key s) ++ [0, 0]) key s) = tot (greL 40960 kind [0, 0, 0, 0] key s) + ckOf kind key s := by
    unfold greL
    have p : ∀ (c : List Int), c.length = 4 → tot (beN 2 40960 ++ beN 2 (typOf kind) ++ c ++ beN 4 key ++ bytesOf s) = tot (beN 2 40960) + tot (beN 2 (typOf kind)) + tot c + (tot (beN 4 key) + tot (bytesOf s)) := by
      intro c hc
      rw [List.append_assoc, tot_append _ _ (by simp [beN_length, hc]), tot_append _ _ (by simp [beN_length]), tot_append _ _ (by simp [beN_length]), tot_append (beN 4 key) _ (by simp [beN_length])]
    rw [p _ (by simp [beN_length]), p _ rfl, tot_append (beN 2 (ckOf kind key s)) _ (by simp [beN_length]), tot_two _ cr.1 (by omega)]
    show _ + _ + (ckOf kind key s + (0 * 256 + 0 + 0)) + _ = _ + _ + (0 * 256 + 0 + (0 * 256 + 0 + 0)) + _ + _
    omega
  have h0 := tot_nonneg _ (greL_range 40960 kind [0, 0, 0, 0] zz_range key s)
  have hb := bytesOf_strOfNums _ (greL_range 40960 kind (beN 2 (ckOf kind key s) ++ [0, 0]) (ckl_range kind key s) key s)
  have hb0 := bytesOf_strOfNums _ (greL_range 40960 kind [0, 0, 0, 0] zz_range key s)
  have ec : ckOf kind key s = 65535 - canon (tot (greL 40960 kind [0, 0, 0, 0] key s)) := by
    show 65535 - canon (tot (bytesOf (strOfNums (greL 40960 kind [0, 0, 0, 0] key s)))) = _
    rw [hb0]
  unfold sumOf
  rw [hb, e1, ec]
  unfold canon
  generalize tot (greL 40960 kind [0, 0, 0, 0] key s) = T at h0
  by_cases hT : T = 0
  · rw [if_pos hT, hT]; decide
  · rw [if_neg hT, if_neg (by omega)]; omega
theorem gre_back (kind : Int) (h1 : 1 ≤ kind) (h3 : kind ≤ 3) (s : ByteArray) (key : Int) (sum : Bool) : greOf (greP kind s key sum) = (kind, s, 0) := by
  have tr := typ_range kind
  have kt := kd_typ kind h1 h3
  have hls := bytesOf_length s
  have main : ∀ (fl : Int) (c : List Int), (∀ x ∈ c, 0 ≤ x ∧ x < 256) → 0 ≤ fl → fl < 65536 → Go.bits .and .i64 fl 20479 = 0 → nOf fl = 8 + c.length → (Go.bits .and .i64 fl 32768 ≠ 0 → sumOf (strOfNums (greL fl kind c key s)) = 0) → greOf (strOfNums (greL fl kind c key s)) = (kind, s, 0) := by
    intro fl c hc f0 f1 hf hn hz
    have hb := bytesOf_strOfNums _ (greL_range fl kind c hc key s)
    have hsz : (strOfNums (greL fl kind c key s)).size = 8 + c.length + s.size := by rw [strOfNums_size]; unfold greL; simp [beN_length]; omega
    generalize hd : strOfNums (greL fl kind c key s) = d at hb hsz hz
    have w0 : W d 0 = fl := by
      unfold W
      rw [piece17 d [] (beN 2 fl) (beN 2 (typOf kind) ++ c ++ beN 4 key ++ bytesOf s) (by rw [hb]; unfold greL; simp) 0 2 rfl (by rw [beN_length]), val217 _ f0 f1]
    have w2 : W d 2 = typOf kind := by
      unfold W
      rw [piece17 d (beN 2 fl) (beN 2 (typOf kind)) (c ++ beN 4 key ++ bytesOf s) (by rw [hb]; unfold greL; simp) 2 4 (beN_length _ _) (by rw [beN_length]), val217 _ tr.1 tr.2]
    have ee : d.extract (8 + c.length) d.size = s := by
      apply bytesOf_inj
      rw [piece17 d (beN 2 fl ++ beN 2 (typOf kind) ++ c ++ beN 4 key) (bytesOf s) [] (by rw [hb]; unfold greL; simp) (8 + c.length) d.size (by simp [beN_length]; omega) (by rw [hsz, hls])]
    unfold greOf
    rw [w0, w2, kt, hn, if_neg (by omega), if_neg (show ¬ (Go.bits .and .i64 fl 20479 ≠ 0 ∨ kind = 0) from fun z => z.elim (fun y => y hf) (fun y => by omega)), if_neg (by omega), if_neg (fun z => z.2 (hz z.1)), ee]
  unfold greP
  cases sum with
  | true =>
    rw [if_pos rfl]
    exact main 40960 _ (ckl_range kind key s) (by omega) (by omega) (by decide) (by simp [beN_length]; decide) (fun _ => sum_zero kind key s)
  | false =>
    rw [if_neg (by decide)]
    exact main 8192 [] (by simp) (by omega) (by omega) (by decide) (by decide) (fun z => absurd (by decide) z)
end Go.Proofs.YtocobalkikkhlaaDoor.Pure

/-! ### TotSet -/
namespace Go.Proofs.YtocobalkikkhlaaDoor.Pure
open Go.RowKit Go.Proofs.YtocobalkikkhlaaDoor.X Go.Proofs.YtocobalkikkhlaaDoorW.PrintWords Go.Proofs.YtocobalkikkhlaaDoorW.PrintLast Go.Proofs.YtocobalkikkhlaaDoorW.PrintMore

theorem tot_set : ∀ (l : List Int) (i : Nat) (x : Int) (h : i < l.length), tot (l.set i x) = tot l + (x - l[i]) * (if i % 2 = 0 then 256 else 1)
  | [], i, x, h => by simp at h
  | [a], 0, x, _ => by simp only [List.set_cons_zero, tot, List.getElem_cons_zero, Nat.zero_mod, if_true]; omega
  | [a], i + 1, x, h => by simp at h
  | a :: b :: r, 0, x, _ => by simp only [List.set_cons_zero, tot, List.getElem_cons_zero, Nat.zero_mod, if_true]; omega
  | a :: b :: r, 1, x, _ => by simp only [List.set_cons_succ, List.set_cons_zero, tot, List.getElem_cons_succ, List.getElem_cons_zero]; simp; omega
  | a :: b :: r, i + 2, x, h => by
    have ih := tot_set r i x (by simp at h; omega)
    simp only [List.set_cons_succ, tot, List.getElem_cons_succ, ih, Nat.add_mod_right]
    omega
theorem W_at (s : ByteArray) (i : Nat) (h : i + 2 ≤ s.size) : W s i = (bytesOf s).getD i 0 * 256 + (bytesOf s).getD (i + 1) 0 := by
  have hl := bytesOf_length s
  unfold W
  rw [bytesOf_extract, show i + 2 - i = 2 by omega, drop_two (bytesOf s) i (by omega)]
  simp [valBE]
end Go.Proofs.YtocobalkikkhlaaDoor.Pure

/-! ### PureTunnelNotices -/
set_option linter.unusedVariables false
set_option linter.unusedSimpArgs false
namespace Go.Proofs.YtocobalkikkhlaaDoor.Pure
open Go.RowKit Go.Proofs.YtocobalkikkhlaaDoor.X Go.Proofs.YtocobalkikkhlaaDoorW.PrintWords Go.Proofs.YtocobalkikkhlaaDoorW.PrintLast Go.Proofs.YtocobalkikkhlaaDoorW.PrintMore

theorem fl_low : ∀ x : Fin 256, x.val ≠ 0 → Go.bits .and .i64 (40960 + (x.val : Int)) 20479 ≠ 0 := by decide +kernel
theorem xor_other (a b : Int) (a0 : 0 ≤ a) (a1 : a ≤ 255) (b0 : 0 ≤ b) (b1 : b < 256) (hb : b ≠ 0) : Go.bits .xor .u8 a b ≠ a ∧ 0 ≤ Go.bits .xor .u8 a b ∧ Go.bits .xor .u8 a b < 256 := by
  obtain ⟨m, rfl⟩ := Int.eq_ofNat_of_zero_le a0
  obtain ⟨n, rfl⟩ := Int.eq_ofNat_of_zero_le b0
  rw [u8_xor_nat m n (by omega) (by omega)]
  have hlt : m ^^^ n < 256 := Nat.xor_lt_two_pow (n := 8) (by omega) (by omega)
  refine ⟨?_, by omega, by omega⟩
  intro h
  have h2 : m ^^^ n = m := by exact_mod_cast h
  have h3 : m ^^^ (m ^^^ n) = m ^^^ m := by rw [h2]
  rw [← Nat.xor_assoc, Nat.xor_self, Nat.zero_xor] at h3
  omega
/-- What is left of a changed packet. -/
theorem gre_changed (key : Int) (s : ByteArray) (d' : ByteArray) (i : Nat) (x : Int) (hi : 1 ≤ i) (hx : 0 ≤ x ∧ x < 256)
    (h : bytesOf d' = (bytesOf (greP 2 s key true)).set i x) (hlt : i < (bytesOf (greP 2 s key true)).length) (hne : x ≠ (bytesOf (greP 2 s key true))[i]) :
    (greOf d').2.2 ≠ 0 ∨ (greOf d').1 ≠ 2 := by
  have hb : bytesOf (greP 2 s key true) = greL 40960 2 (beN 2 (ckOf 2 key s) ++ [0, 0]) key s := bytesOf_strOfNums _ (greL_range 40960 2 _ (ckl_range 2 key s) key s)
  have hz := sum_zero 2 key s
  have hls := bytesOf_length s
  have hsz : d'.size = 12 + s.size := by
    have e := bytesOf_length d'
    rw [h, List.length_set, hb] at e
    rw [← e]
    unfold greL
    simp [beN_length]
    omega
  have hzt : canon (tot (bytesOf (greP 2 s key true))) = 65535 := by
    have : sumOf (greP 2 s key true) = 0 := hz
    unfold sumOf at this
    omega
  obtain ⟨R, hR⟩ : ∃ R, bytesOf (greP 2 s key true) = 160 :: 0 :: 134 :: 221 :: R := by
    rw [hb]
    exact ⟨(beN 2 (ckOf 2 key s) ++ [0, 0]) ++ (beN 4 key ++ bytesOf s), by unfold greL; simp [beN, typOf]⟩
  have w0 := W_at d' 0 (by omega)
  have w2 := W_at d' 2 (by omega)
  have hset := tot_set (bytesOf (greP 2 s key true)) i x hlt
  rw [← h] at hset
  have hT := tot_nonneg _ (bytesOf_range (greP 2 s key true))
  have hT' := tot_nonneg _ (bytesOf_range d')
  have hr := bytesOf_range (greP 2 s key true) _ (List.getElem_mem hlt)
  generalize hL : bytesOf (greP 2 s key true) = L at *
  generalize hq : L[i] = q at *
  by_cases c1 : i = 1
  · subst c1
    have hq0 : q = 0 := by rw [← hq]; subst hR; rfl
    have e0 : W d' 0 = 40960 + x := by rw [w0, h, hR]; simp <;> omega
    refine .inl ?_
    have hf := fl_low ⟨x.toNat, by omega⟩ (by show x.toNat ≠ 0; omega)
    rw [show ((⟨x.toNat, by omega⟩ : Fin 256).val : Int) = x by show ((x.toNat : Nat) : Int) = x; omega] at hf
    unfold greOf
    rw [if_neg (by omega), e0, if_pos (.inl hf)]
    decide
  · have e0 : W d' 0 = 40960 := by
      rw [w0, h, hR]
      obtain ⟨j, rfl⟩ : ∃ j, i = j + 1 + 1 := ⟨i - 2, by omega⟩
      simp
    by_cases c4 : i < 4
    · have hk : kdOf (W d' 2) ≠ 2 := by
        have hw : W d' 2 ≠ 34525 := by
          rw [w2, h, hR]
          have : i = 2 ∨ i = 3 := by omega
          rcases this with rfl | rfl
          · have hq0 : q = 134 := by rw [← hq]; subst hR; rfl
            simp
            omega
          · have hq0 : q = 221 := by rw [← hq]; subst hR; rfl
            simp
            omega
        unfold kdOf
        split
        · decide
        · split <;> decide
      refine .inr ?_
      unfold greOf
      rw [if_neg (by omega)]
      split
      · exact (by decide : (0 : Int) ≠ 2)
      · split
        · exact (by decide : (0 : Int) ≠ 2)
        · split
          · exact (by decide : (0 : Int) ≠ 2)
          · exact hk
    · have e2 : W d' 2 = 34525 := by
        rw [w2, h, hR]
        obtain ⟨j, rfl⟩ : ∃ j, i = j + 1 + 1 + 1 + 1 := ⟨i - 4, by omega⟩
        simp
      refine .inl ?_
      have hs0 : sumOf d' ≠ 0 := by
        unfold sumOf
        rw [hset] at hT' ⊢
        unfold canon at hzt ⊢
        have hm : (if i % 2 = 0 then 256 else 1 : Int) = 256 ∨ (if i % 2 = 0 then 256 else 1 : Int) = 1 := by split <;> simp
        rcases hm with hm | hm
        · rw [hm] at hT' ⊢
          split at hzt
          · omega
          · split <;> omega
        · rw [hm] at hT' ⊢
          split at hzt
          · omega
          · split <;> omega
      have hn : nOf 40960 = 12 := by decide
      unfold greOf
      rw [if_neg (by omega), e0, e2, hn, if_neg (by decide), if_neg (by omega), if_pos ⟨by decide, hs0⟩]
      decide
theorem TunnelNotices : intrusionlaw17_TunnelNotices.Pure := by
  intro s at' by' hs ha hb
  have hb := wf_u8 hb
  have ha := wf_i64 ha
  have A : Addrs 0 167772161 0 167772161 := ⟨by omega, by omega, by omega, by omega, by omega, by omega, by omega, by omega⟩
  obtain ⟨K, hK⟩ : ∃ K, s.size + 71000 = K := ⟨_, rfl⟩
  have hf : okFit false 0 167772161 false 0 167772161 := ⟨.inr ⟨rfl, by decide⟩, .inr ⟨rfl, by decide⟩, rfl⟩
  refine ⟨K + 1, ?_⟩
  have out : ∀ e v a b w c d p t da, intrusionlaw17_TunnelNotices.j0 (K + 1) s at' by' e true v a b w c d p t da = some true := by
    intro e v a b w c d p t da
    rw [intrusionlaw17_TunnelNotices.j0, if_pos rfl, awake17_is _ (by omega)]
    simp only [bs]
  unfold intrusionlaw17_TunnelNotices.f
  rw [wrapGre_is false 0 167772161 false 0 167772161 2 s (by omega) 5 (by omega) (by omega) true (K + 1) (by omega)]
  simp only [bs]
  by_cases h3 : (s.size : Int) > 3000
  · rw [if_pos h3]; exact out _ _ _ _ _ _ _ _ _ _
  · rw [if_neg h3]
    by_cases hb0 : by' = 0
    · rw [if_pos hb0]; exact out _ _ _ _ _ _ _ _ _ _
    · rw [if_neg hb0]
      by_cases h1 : at' < 1
      · rw [if_pos h1]; exact out _ _ _ _ _ _ _ _ _ _
      · rw [if_neg h1]
        have hls := bytesOf_length s
        have hgb : bytesOf (greP 2 s 5 true) = greL 40960 2 (beN 2 (ckOf 2 5 s) ++ [0, 0]) 5 s := bytesOf_strOfNums _ (greL_range 40960 2 _ (ckl_range 2 5 s) 5 s)
        have hgl : (bytesOf (greP 2 s 5 true)).length = 12 + s.size := by rw [hgb]; unfold greL; simp [beN_length]; omega
        have hgs : (greP 2 s 5 true).size = 12 + s.size := by rw [← bytesOf_length, hgl]
        have hw : wgOf false 0 167772161 false 0 167772161 2 s 5 true = (false, 0, 167772161, false, 0, 167772161, 47, 64, greP 2 s 5 true, 0) := by
          unfold wgOf madeOf
          rw [if_pos hf, if_neg (by omega), if_neg (by omega)]
        rw [hw]
        dsimp only
        by_cases h4 : at' ≥ ((greP 2 s 5 true).size : Int)
        · rw [decide_eq_true h4]; exact out _ _ _ _ _ _ _ _ _ _
        · rw [decide_eq_false h4, intrusionlaw17_TunnelNotices.j0, if_neg (by decide)]
          obtain ⟨i, rfl⟩ : ∃ i : Nat, at' = i := ⟨at'.toNat, by omega⟩
          have hlt : i < (bytesOf (greP 2 s 5 true)).length := by omega
          have hbt : bt (greP 2 s 5 true) (i : Int) = (bytesOf (greP 2 s 5 true))[i] := by
            rw [bt_eq, List.getD_eq_getElem?_getD, List.getElem?_eq_getElem hlt]; rfl
          have hr := bytesOf_range (greP 2 s 5 true) _ (List.getElem_mem hlt)
          obtain ⟨x1, x2, x3⟩ := xor_other (bytesOf (greP 2 s 5 true))[i] by' hr.1 (by omega) hb.1 hb.2 hb0
          rw [if_pos (by omega), if_pos (by omega), if_pos (by omega), hbt]
          simp only [bs]
          have z1 : (strOfNums [Go.bits .xor .u8 (bytesOf (greP 2 s 5 true))[i] by']).size = 1 := by rw [strOfNums_size]; rfl
          rw [if_pos (by rw [z1, ByteArray.size_extract]; omega), w64 (n := (i : Int) + 1) (by omega) (by omega), if_pos (by omega), if_pos (by omega), if_pos (by rw [size_append, z1, ByteArray.size_extract, ByteArray.size_extract]; omega), Int.toNat_natCast, show ((i : Int) + 1).toNat = i + 1 by omega]
          generalize hX : Go.bits .xor .u8 (bytesOf (greP 2 s 5 true))[i] by' = x at x1 x2 x3 z1
          have hd : bytesOf ((greP 2 s 5 true).extract 0 i ++ strOfNums [x] ++ (greP 2 s 5 true).extract (i + 1) (greP 2 s 5 true).size) = (bytesOf (greP 2 s 5 true)).set i x := by
            rw [bytesOf_append, bytesOf_append, bytesOf_extract, bytesOf_extract, bytesOf_strOfNums [x] (by intro y hy; simp at hy; omega), List.drop_zero, Nat.sub_zero, List.take_of_length_le (l := List.drop (i + 1) (bytesOf (greP 2 s 5 true))) (by rw [List.length_drop, hgl, hgs]; omega), List.set_eq_take_append_cons_drop, if_pos hlt]
            simp
          have hds : ((greP 2 s 5 true).extract 0 i ++ strOfNums [x] ++ (greP 2 s 5 true).extract (i + 1) (greP 2 s 5 true).size).size = 12 + s.size := by
            rw [← bytesOf_length, hd, List.length_set, hgl]
          have hc := gre_changed 5 s _ i x (by omega) ⟨x2, x3⟩ hd hlt x1
          generalize ((greP 2 s 5 true).extract 0 i ++ strOfNums [x] ++ (greP 2 s 5 true).extract (i + 1) (greP 2 s 5 true).size) = d' at hds hc
          have hI : innerOf false 0 167772161 false 0 167772161 47 d' = greOf d' := by
            unfold innerOf
            rw [if_neg (by decide), if_neg (by decide), if_pos rfl]
          rw [inner_is false 0 167772161 false 0 167772161 A 47 64 d' (by omega) K (by omega), hI]
          simp only [bs, if_true]
          rw [awake17_is _ (by omega)]
          simp only [bs]
          by_cases g1 : (greOf d').2.2 = 0
          · rw [if_pos g1, if_neg (hc.resolve_left (fun z => z g1))]
          · rw [if_neg g1]
end Go.Proofs.YtocobalkikkhlaaDoor.Pure
