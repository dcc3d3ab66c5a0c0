/- Ipv4Splits as a plain law: Split of any packet is the document's, and the examples hold, under the law's own bounds; the packet is as large as a machine's memory lets it be. -/
import Derived.Test.YtobioaommmgehaaZDIpv4Splits
import Derived.Test.YtobioaommmgehaaZ0
import Derived.Laws.Bits128
import Derived.Laws.BitsAllLaws
import Derived.Lib.EndianBits
import Derived.Test.YtobioaommmgehaaZ6
import Derived.Test.YtobioaommmgehaaZ13
import Derived.Test.YtobioaommmgehaaZ12
import Derived.Test.YtobioaommmgehaaZ4
import Derived.Test.YtobioaommmgehaaZ7
import Derived.Test.YtobioaommmgehaaZ8
import Derived.Test.YtobioaommmgehaaZ9
import Derived.Test.YtobioaommmgehaaZ14
import Derived.Test.YtobioaommmgehaaZ16
import Derived.Test.YtobioaommmgehaaZ17
import Derived.Test.YtobioaommmgehaaZ15
import Derived.Lib.QuoteBits
import Derived.Test.YtobioaommmgehaaZ11
import Derived.Test.YtobioaommmgehaaZ19
import Derived.Test.YtobioaommmgehaaZ18
set_option linter.unusedVariables false
set_option linter.unusedSimpArgs false
namespace Go.Proofs.Ytobioaommmgehaa.Pure
open Go.RowKit Go.Proofs.Ytobioaommmgehaa.Z Go.Proofs.YtobioaommmgehaaW.PrintWords Go.Proofs.YtobioaommmgehaaW.PrintLast Go.Proofs.YtobioaommmgehaaW.PrintMore

theorem bs {α β : Type} (a : α) (f : α → Option β) : (some a).bind f = f a := by
  cases h : (some a) with
  | none => cases h
  | some b => injection h with h; subst h; rfl
theorem w64 {n : Int} (h : -9223372036854775808 ≤ n) (h' : n < 9223372036854775808) : wrap64 n = n := by unfold wrap64; omega
theorem and16 (n : Int) : Go.bits .and .i64 n 65535 = n % 65536 := by
  have h127 : (BitVec.ofInt 64 65535).toNat = 2 ^ 16 - 1 := by decide
  have key : (BitVec.ofInt 64 n &&& BitVec.ofInt 64 65535).toNat = (n % ((2 ^ 64 : Nat) : Int)).toNat % 2 ^ 16 := by
    rw [BitVec.toNat_and, BitVec.toNat_ofInt, h127, Nat.and_two_pow_sub_one_eq_mod]
  show IntKind.i64.wrap ((BitVec.ofInt 64 n &&& BitVec.ofInt 64 65535).toNat : Nat) = n % 65536
  rw [key, IntKind.wrap_i64]
  omega
theorem wraps_i64' (n : Int) (h₀ : 0 ≤ n) (h₁ : n < 2 ^ 63) : IntKind.i64.wrap n = n := by rw [IntKind.wrap_i64]; omega
theorem or8 (x b : Int) (h0 : 0 ≤ x) (h1 : x < 9223372036854775808) (hx : x % 256 = 0) (hb0 : 0 ≤ b) (hb : b < 256) : Go.bits .or .i64 x b = x + b :=
  bits_join .i64 63 (by decide) wraps_i64' 8 x b h0 (by omega) (by omega) hb0 (by omega) (by omega)
theorem bytesOf_append (a b : ByteArray) : bytesOf (a ++ b) = bytesOf a ++ bytesOf b := by
  simp [bytesOf, ByteArray.data_append]
theorem bytesOf_range (s : ByteArray) : ∀ x ∈ bytesOf s, 0 ≤ x ∧ x < 256 := by
  intro x hx
  obtain ⟨b, _, rfl⟩ := List.mem_map.mp hx
  have := b.toNat_lt
  omega
theorem bytesOf_inj {a b : ByteArray} (h : bytesOf a = bytesOf b) : a = b := by
  have h2 : a.data.toList = b.data.toList := by
    refine List.map_inj_right (f := fun (b : UInt8) => (b.toNat : Int)) ?_ |>.mp h
    intro x y hxy
    exact UInt8.toNat_inj.mp (by exact_mod_cast hxy)
  cases a; cases b
  simp at h2
  simp [h2]
theorem bytesOf_strOfNums (l : List Int) (h : ∀ x ∈ l, 0 ≤ x ∧ x < 256) : bytesOf (strOfNums l) = l := by
  induction l with
  | nil => rfl
  | cons x l ih =>
    have h1 := h x (by simp)
    have h2 := ih (fun y hy => h y (by simp [hy]))
    simp only [bytesOf, strOfNums_data, List.map_map, List.map_cons] at h2 ⊢
    refine List.cons_eq_cons.mpr ⟨?_, h2⟩
    simp only [UInt8.toNat_ofNat']
    omega
theorem bt_eq (s : ByteArray) (i : Nat) : bt s (i : Int) = (bytesOf s).getD i 0 := by
  unfold bt bytesOf
  rw [Int.toNat_natCast]
  by_cases h : i < s.size
  · have h' : i < s.data.toList.length := by rw [Array.length_toList]; exact h
    rw [dif_pos h]
    simp [List.getD_eq_getElem?_getD, List.getElem?_eq_getElem h']
    rfl
  · have h' : s.data.toList.length ≤ i := by rw [Array.length_toList]; exact Nat.not_lt.1 h
    rw [dif_neg h]
    simp [List.getD_eq_getElem?_getD, List.getElem?_eq_none h']
theorem bt_range (s : ByteArray) (i : Int) : 0 ≤ bt s i ∧ bt s i ≤ 255 := by
  unfold bt
  split
  · rename_i h
    have := (s[i.toNat]'h).toNat_lt
    omega
  · omega
theorem size_append (a b : ByteArray) : (a ++ b).size = a.size + b.size := by simp
theorem strOfNums_append (a b : List Int) : strOfNums (a ++ b) = strOfNums a ++ strOfNums b := by
  apply ByteArray.ext; simp [strOfNums, ByteArray.data_append]
theorem wf_i64 {n : Int} (h : (Lit.int .i64 n).wf = true) : -9223372036854775808 ≤ n ∧ n < 9223372036854775808 := by
  simp only [Lit.wf, Bool.and_eq_true, decide_eq_true_eq] at h
  have e1 : IntKind.i64.min = -9223372036854775808 := by decide
  have e2 : IntKind.i64.max = 9223372036854775807 := by decide
  omega

theorem awake300 : intrusionlaw11_awake.f 300 = some true := by decide +kernel
theorem awake11_is (k : Nat) (hk : 300 ≤ k) : intrusionlaw11_awake.f k = some true := at_rounds intrusionlaw11_awake.mono hk awake300
section
variable (c id tt pr : Int) (dn mr : Bool) (off : Int) (v : Bool) (s1 s2 : Int) (w : Bool) (d1 d2 : Int) (l : List S50) (p : ByteArray)
theorem sameO_loop (hl : l.length ≤ 4611686018427387904) : ∀ (m i k : Nat), i + m = l.length → intrusionlaw11_sameOptions.l0 (k + m + 1) l l l.length (i : Int) = some true
  | 0, i, k, h => by rw [intrusionlaw11_sameOptions.l0, if_neg (by omega)]
  | m + 1, i, k, h => by
    rw [show k + (m + 1) + 1 = (k + m + 1) + 1 by omega, intrusionlaw11_sameOptions.l0, if_pos (by omega), if_pos (by omega), if_pos (by omega), if_pos (by omega), if_neg (by simp), w64 (n := (i : Int) + 1) (by omega) (by omega), show (i : Int) + 1 = ((i + 1 : Nat) : Int) by omega, sameO_loop hl m (i + 1) k (by omega)]
theorem same4_self (hl : l.length ≤ 4611686018427387904) (k : Nat) (hk : l.length + 1 ≤ k) : intrusionlaw11_same.f k c id tt pr dn mr off v s1 s2 w d1 d2 l p c id tt pr dn mr off v s1 s2 w d1 d2 l p = some true := by
  have h := sameO_loop l hl l.length 0 (k - l.length - 1) (by omega)
  rw [show k - l.length - 1 + l.length + 1 = k by omega] at h
  unfold intrusionlaw11_same.f intrusionlaw11_sameOptions.f
  rw [show ((0 : Nat) : Int) = 0 from rfl] at h
  simp only [if_true, beq_self_eq_true, Bool.and_self, h, bs]
theorem large_is : intrusionlaw11_large.f c id tt pr dn mr off v s1 s2 w d1 d2 l p = some (decide (p.size > 70000 ∨ l.length > 60)) := by
  unfold intrusionlaw11_large.f
  by_cases a : (p.size : Int) > 70000
  · rw [if_pos a, decide_eq_true (show p.size > 70000 ∨ l.length > 60 from .inl (by omega))]
  · rw [if_neg a]
    congr 1
    apply decide_eq_decide.mpr
    omega
end

def tot : List Int → Int
  | [] => 0
  | [a] => a * 256
  | a :: b :: r => a * 256 + b + tot r
def canon (t : Int) : Int := if t = 0 then 0 else (t - 1) % 65535 + 1
theorem tot_nonneg : ∀ l : List Int, (∀ x ∈ l, 0 ≤ x ∧ x < 256) → 0 ≤ tot l
  | [], _ => by simp [tot]
  | [a], h => by have := h a (by simp); simp only [tot]; omega
  | a :: b :: r, h => by
    have h1 := h a (by simp)
    have h2 := h b (by simp)
    have h3 := tot_nonneg r (fun x hx => h x (by simp [hx]))
    simp only [tot]; omega
theorem canon_range {t : Int} (_h : 0 ≤ t) : 0 ≤ canon t ∧ canon t ≤ 65535 := by
  unfold canon; split <;> omega
theorem canon_step {t w : Int} (ht : 0 ≤ t) (h0 : 0 ≤ w) (h1 : w ≤ 65535) : (if canon t + w > 65535 then canon t + w - 65535 else canon t + w) = canon (t + w) := by
  unfold canon; split <;> split <;> split <;> omega
theorem fold_some (x : Int) (h0 : 0 ≤ x) (h1 : x ≤ 131070) : checksum_fold.f x = some (if x > 65535 then x - 65535 else x) := by
  unfold checksum_fold.f
  split
  · rw [w64 (by omega) (by omega)]
  · rfl
theorem drop_two (l : List Int) (i : Nat) (h : i + 1 < l.length) : l.drop i = l.getD i 0 :: l.getD (i + 1) 0 :: l.drop (i + 2) := by
  rw [List.drop_eq_getElem_cons (by omega), List.drop_eq_getElem_cons (by omega)]
  simp [List.getD_eq_getElem?_getD, List.getElem?_eq_getElem (show i < l.length by omega), List.getElem?_eq_getElem h]
theorem drop_one (l : List Int) (i : Nat) (h : i + 1 = l.length) : l.drop i = [l.getD i 0] := by
  rw [List.drop_eq_getElem_cons (by omega), List.drop_of_length_le (by omega)]
  simp [List.getD_eq_getElem?_getD, List.getElem?_eq_getElem (show i < l.length by omega)]
theorem sum_loop (s : ByteArray) (hs : s.size ≤ 4611686018427387904) : ∀ (k i : Nat) (t : Int), 0 ≤ t → s.size + 2 < 2 * k + i → i ≤ s.size + 1 →
    checksum_Sum.l0 k s (canon t) i = some (65535 - canon (t + tot ((bytesOf s).drop i)))
  | 0, i, t, _, h, h2 => by omega
  | k + 1, i, t, ht, h, h2 => by
    have hlen := bytesOf_length s
    have hr := canon_range ht
    unfold checksum_Sum.l0
    by_cases h1 : (i : Int) < (s.size : Int)
    · rw [if_pos h1, if_pos (by omega), w64 (n := (i : Int) + 1) (by omega) (by omega)]
      have hb := bt_range s i
      have hb2 := bt_range s ((i : Int) + 1)
      have hm : wrap64 (wrap64 (bt s i) * 256) = bt s i * 256 := by rw [w64 (n := bt s i) (by omega) (by omega), w64 (by omega) (by omega)]
      try rw [hm]
      rw [w64 (n := (i : Int) + 2) (by omega) (by omega), show ((i : Int) + 2) = ((i + 2 : Nat) : Int) by omega]
      by_cases h3 : (i : Int) + 1 < (s.size : Int)
      · rw [if_pos h3, if_pos (by omega)]
        try rw [w64 (n := bt s ((i : Int) + 1)) (by omega) (by omega)]
        rw [or8 _ _ (by omega) (by omega) (by omega) (by omega) (by omega),
          w64 (by omega) (by omega), fold_some _ (by omega) (by omega), Option.bind_some, canon_step ht (by omega) (by omega),
          sum_loop s hs k (i + 2) _ (by omega) (by omega) (by omega), drop_two _ i (by omega), tot]
        rw [show ((i : Int) + 1) = ((i + 1 : Nat) : Int) by omega, bt_eq, bt_eq, Int.add_assoc]
      · rw [if_neg h3, w64 (by omega) (by omega), fold_some _ (by omega) (by omega), Option.bind_some, canon_step ht (by omega) (by omega),
          sum_loop s hs k (i + 2) _ (by omega) (by omega) (by omega), drop_one _ i (by omega), tot, List.drop_of_length_le (by omega), tot, bt_eq, Int.add_zero]
    · rw [if_neg h1, List.drop_of_length_le (by omega), tot, Int.add_zero, w64 (by omega) (by omega)]
def sumOf (s : ByteArray) : Int := 65535 - canon (tot (bytesOf s))
theorem sum_is (s : ByteArray) (hs : s.size ≤ 4611686018427387904) (k : Nat) (hk : s.size + 2 < k) : checksum_Sum.f k s = some (sumOf s) := by
  have := sum_loop s hs k 0 0 (by omega) (by omega) (by omega)
  unfold checksum_Sum.f sumOf
  simpa [canon] using this
theorem sumOf_range (s : ByteArray) : 0 ≤ sumOf s ∧ sumOf s ≤ 65535 := by
  have := canon_range (tot_nonneg _ (bytesOf_range s))
  unfold sumOf; omega
def addOf (a b : Int) : Int := if a % 65536 + b % 65536 > 65535 then a % 65536 + b % 65536 - 65535 else a % 65536 + b % 65536

def beN : Nat → Int → List Int
  | 0, _ => []
  | i + 1, n => n / 256 ^ i % 256 :: beN i n
theorem beN_length : ∀ (i : Nat) (n : Int), (beN i n).length = i
  | 0, _ => rfl
  | i + 1, n => by simp [beN, beN_length i n]
def valBE (l : List Int) : Int := l.foldl (fun n c => n * 256 + c) 0
theorem shr64 (n : Int) (i : Nat) (h : i ≤ 8) : shr .i64 n (8 * (i : Int)) = n / 256 ^ i := by
  unfold shr
  have e : IntKind.i64.bits = 64 := rfl
  rw [e, show (8 * (i : Int)).toNat = 8 * i by omega, Nat.min_eq_left (by omega), Int.pow_mul]
  rfl
theorem put_loop (n : Int) (size : Nat) (hs : size ≤ 7) : ∀ (m i k : Nat), i + m = size →
    field_Put.l0 (k + m + 1) n size (List.replicate m 0 ++ beN i n) size i = some (strOfNums (beN size n))
  | 0, i, k, h => by
    unfold field_Put.l0
    rw [if_neg (by omega)]
    simp only [List.replicate_zero, List.nil_append]
    rw [show i = size by omega]
  | m + 1, i, k, h => by
    rw [show k + (m + 1) + 1 = (k + m + 1) + 1 by omega]
    unfold field_Put.l0
    have hl : (List.replicate (m + 1) (0 : Int) ++ beN i n).length = size := by simp [beN_length]; omega
    rw [w64 (n := 8 * (i : Int)) (by omega) (by omega), w64 (n := (size : Int) - 1) (by omega) (by omega), w64 (n := (size : Int) - 1 - i) (by omega) (by omega), w64 (n := (i : Int) + 1) (by omega) (by omega), hl]
    rw [if_pos (by omega), if_pos (by omega), if_pos (by omega), if_pos (by omega), shr64 n i (by omega)]
    have e : (List.replicate (m + 1) (0 : Int) ++ beN i n).set ((size : Int) - 1 - i).toNat (n / 256 ^ i % 256) = List.replicate m 0 ++ beN (i + 1) n := by
      rw [show ((size : Int) - 1 - i).toNat = m by omega, List.replicate_succ', List.append_assoc, List.set_append_right _ _ (by simp)]
      simp [beN]
    rw [e, show (i : Int) + 1 = ((i + 1 : Nat) : Int) by omega]
    exact put_loop n size hs m (i + 1) k (by omega)
def putOf (n size : Int) : ByteArray := if 1 ≤ size ∧ size ≤ 7 ∧ 0 ≤ n ∧ n < 256 ^ size.toNat then strOfNums (beN size.toNat n) else ⟨#[]⟩
theorem put_is (n size : Int) (k : Nat) (hk : 10 ≤ k) : field_Put.f k n size = some (putOf n size) := by
  obtain ⟨k, rfl⟩ : ∃ m, k = m + 1 := ⟨k - 1, by omega⟩
  unfold field_Put.f field_valid.f putOf
  by_cases h1 : 1 ≤ size
  · by_cases h7 : size ≤ 7
    · obtain ⟨z, rfl⟩ := Int.eq_ofNat_of_zero_le (show 0 ≤ size by omega)
      have hp : (0 : Int) < 256 ^ z := Int.pow_pos (by decide)
      simp only [ge_iff_le, h1, h7, if_true, decide_true, Option.bind_some, true_and, Int.toNat_natCast]
      rw [w64 (n := 8 * (z : Int)) (by omega) (by omega), shr64 n z (by omega)]
      by_cases h0 : n < 0
      · rw [if_pos h0, if_neg (show ¬ (0 ≤ n ∧ n < 256 ^ z) by omega)]
        unfold field_Put.j0
        simp
      · rw [if_neg h0, if_pos (show 0 ≤ 8 * (z : Int) by omega)]
        by_cases hb : n < 256 ^ z
        · rw [if_pos ⟨by omega, hb⟩, Int.ediv_eq_zero_of_lt (by omega) hb]
          unfold field_Put.j0
          have hl := put_loop n z (by omega) z 0 (k - z - 1) (by omega)
          rw [show k - z - 1 + z + 1 = k by omega] at hl
          simp only [bne_self_eq_false, Bool.false_eq_true, if_false]
          rw [if_pos (by omega), if_pos (by omega)]
          simpa [beN] using hl
        · have h3 : n / 256 ^ z ≠ 0 := by
            intro hz
            have := Int.lt_ediv_add_one_mul_self n hp
            rw [hz] at this
            omega
          rw [if_neg (fun h => hb h.2)]
          unfold field_Put.j0
          simp [h3]
    · have hn : ¬ (1 ≤ size ∧ size ≤ 7 ∧ 0 ≤ n ∧ n < 256 ^ size.toNat) := fun h => h7 h.2.1
      rw [if_pos (show size ≥ 1 from h1), if_neg hn]
      unfold field_Put.j0
      simp [h7]
  · have hn : ¬ (1 ≤ size ∧ size ≤ 7 ∧ 0 ≤ n ∧ n < 256 ^ size.toNat) := fun h => h1 h.1
    rw [if_neg (show ¬ size ≥ 1 from h1), if_neg hn]
    unfold field_Put.j0
    simp
theorem putOf_len (n size : Int) : (putOf n size).size ≤ 7 := by
  unfold putOf
  split
  · rw [strOfNums_size, beN_length]; omega
  · decide

theorem wu64 {n : Int} (h : 0 ≤ n) (h' : n < 18446744073709551616) : IntKind.u64.wrap n = n := u64_wrap_id n h h'
theorem shrU64 (n : Int) (i : Nat) (h : i ≤ 8) : shr .u64 n (8 * (i : Int)) = n / 256 ^ i := by
  unfold shr
  have e : IntKind.u64.bits = 64 := rfl
  rw [e, show (8 * (i : Int)).toNat = 8 * i by omega, Nat.min_eq_left (by omega), Int.pow_mul]
  rfl
def adrB (v6 : Bool) (hi lo : Int) : List Int := if v6 = true then beN 8 hi ++ beN 8 lo else beN 4 lo
theorem adrB_len (v6 : Bool) (hi lo : Int) : (adrB v6 hi lo).length = if v6 = true then 16 else 4 := by
  unfold adrB
  split <;> simp [beN_length]
theorem abytes_loop (n : Int) (z : Nat) (hz : z ≤ 8) : ∀ (m i k : Nat) (x : List Int), i + m = z → x.length ≤ i →
    address_bytes.l0 (k + m + 1) n z x z i = some (strOfNums (x ++ beN m n))
  | 0, i, k, x, h, hx => by
    unfold address_bytes.l0
    rw [if_neg (by omega)]
    simp [beN]
  | m + 1, i, k, x, h, hx => by
    rw [show k + (m + 1) + 1 = (k + m + 1) + 1 by omega]
    unfold address_bytes.l0
    rw [w64 (n := (z : Int) - 1) (by omega) (by omega), w64 (n := (z : Int) - 1 - i) (by omega) (by omega), w64 (n := 8 * ((z : Int) - 1 - i)) (by omega) (by omega), w64 (n := (i : Int) + 1) (by omega) (by omega)]
    rw [if_pos (by omega), if_pos (by omega), if_pos (by omega), show (z : Int) - 1 - i = (m : Int) by omega, shrU64 n m (by omega), show (i : Int) + 1 = ((i + 1 : Nat) : Int) by omega,
      abytes_loop n z hz m (i + 1) k _ (by omega) (by simp; omega)]
    simp [beN]
theorem abytes_is (n : Int) (z : Nat) (hz : z ≤ 8) (k : Nat) (hk : 10 ≤ k) : address_bytes.f k n z = some (strOfNums (beN z n)) := by
  have h := abytes_loop n z hz z 0 (k - z - 1) [] (by omega) (by simp)
  rw [show k - z - 1 + z + 1 = k by omega] at h
  unfold address_bytes.f
  simpa using h
theorem aBytes_is (v6 : Bool) (hi lo : Int) (k : Nat) (hk : 10 ≤ k) : address_Bytes.f k v6 hi lo = some (strOfNums (adrB v6 hi lo)) := by
  unfold address_Bytes.f adrB
  have a1 := abytes_is hi 8 (by omega) k hk
  have a2 := abytes_is lo 8 (by omega) k hk
  have a3 := abytes_is lo 4 (by omega) k hk
  rw [show ((8 : Nat) : Int) = 8 from rfl] at a1 a2
  rw [show ((4 : Nat) : Int) = 4 from rfl] at a3
  split
  · rw [a1, a2]
    simp only [bs]
    rw [if_pos (by rw [strOfNums_size, strOfNums_size, beN_length, beN_length]; omega), ← strOfNums_append]
  · rw [a3]
    simp only [bs]

theorem str_bytes (s : ByteArray) : strOfNums (bytesOf s) = s := bytesOf_inj (bytesOf_strOfNums _ (bytesOf_range s))
theorem app_assoc (a b c : ByteArray) : a ++ b ++ c = a ++ (b ++ c) := by apply bytesOf_inj; simp only [bytesOf_append, List.append_assoc]

theorem radd_is (a b : Int) : intrusionref02_Add.f a b = some (addOf a b) := by
  unfold intrusionref02_Add.f addOf
  rw [and16, and16, w64 (n := a % 65536 + b % 65536) (by omega) (by omega)]
  split
  · rw [w64 (by omega) (by omega)]
  · rfl
theorem radd_step {t w : Int} (ht : 0 ≤ t) (h0 : 0 ≤ w) (h1 : w ≤ 65535) : intrusionref02_Add.f (canon t) w = some (canon (t + w)) := by
  have hr := canon_range ht
  rw [radd_is, ← canon_step ht h0 h1, addOf, show canon t % 65536 = canon t by omega, show w % 65536 = w by omega]
theorem rsum_loop (s : ByteArray) (hs : s.size ≤ 4611686018427387904) : ∀ (k i : Nat) (t : Int), 0 ≤ t → s.size + 2 < 2 * k + i → i ≤ s.size + 1 →
    intrusionref02_Sum.l0 k s (canon t) i = some (65535 - canon (t + tot ((bytesOf s).drop i)))
  | 0, i, t, _, h, h2 => by omega
  | k + 1, i, t, ht, h, h2 => by
    have hlen := bytesOf_length s
    have hr := canon_range ht
    unfold intrusionref02_Sum.l0
    by_cases h1 : (i : Int) < (s.size : Int)
    · rw [if_pos h1, if_pos (by omega), w64 (n := (i : Int) + 1) (by omega) (by omega)]
      have hb := bt_range s i
      have hb2 := bt_range s ((i : Int) + 1)
      have hm : wrap64 (wrap64 (bt s i) * 256) = bt s i * 256 := by rw [w64 (n := bt s i) (by omega) (by omega), w64 (by omega) (by omega)]
      try rw [hm]
      rw [w64 (n := (i : Int) + 2) (by omega) (by omega), show ((i : Int) + 2) = ((i + 2 : Nat) : Int) by omega]
      by_cases h3 : (i : Int) + 1 < (s.size : Int)
      · rw [if_pos h3, if_pos (by omega)]
        try rw [w64 (n := bt s ((i : Int) + 1)) (by omega) (by omega)]
        rw [w64 (by omega) (by omega), radd_step ht (by omega) (by omega), Option.bind_some,
          rsum_loop s hs k (i + 2) _ (by omega) (by omega) (by omega), drop_two _ i (by omega), tot]
        rw [show ((i : Int) + 1) = ((i + 1 : Nat) : Int) by omega, bt_eq, bt_eq, Int.add_assoc]
      · rw [if_neg h3, radd_step ht (by omega) (by omega), Option.bind_some,
          rsum_loop s hs k (i + 2) _ (by omega) (by omega) (by omega), drop_one _ i (by omega), tot, List.drop_of_length_le (by omega), tot, bt_eq, Int.add_zero]
    · rw [if_neg h1, List.drop_of_length_le (by omega), tot, Int.add_zero, w64 (by omega) (by omega)]
theorem rsum_is (s : ByteArray) (hs : s.size ≤ 4611686018427387904) (k : Nat) (hk : s.size + 2 < k) : intrusionref02_Sum.f k s = some (sumOf s) := by
  have := rsum_loop s hs k 0 0 (by omega) (by omega) (by omega)
  unfold intrusionref02_Sum.f sumOf
  simpa [canon] using this

theorem power_is (z : Nat) (h : z ≤ 7) (k : Nat) (hk : 10 ≤ k) : intrusionref01_Power.f k z = some (256 ^ z) := by
  refine at_rounds (intrusionref01_Power.mono _) hk ?_
  obtain rfl | rfl | rfl | rfl | rfl | rfl | rfl | rfl : z = 0 ∨ z = 1 ∨ z = 2 ∨ z = 3 ∨ z = 4 ∨ z = 5 ∨ z = 6 ∨ z = 7 := by omega
  all_goals decide +kernel
theorem beN_snoc : ∀ (i : Nat) (n : Int), beN (i + 1) n = beN i (n / 256) ++ [n % 256]
  | 0, n => by simp [beN]
  | i + 1, n => by
    rw [beN, beN_snoc i n, beN, Int.pow_succ, Int.mul_comm, ← Int.ediv_ediv_of_nonneg (by omega)]
    rfl
theorem rput_is : ∀ (z : Nat) (n : Int) (k : Nat), -9223372036854775808 ≤ n → n < 9223372036854775808 → 1 ≤ z → z ≤ 7 → 2 * z + 20 ≤ k → intrusionref01_Put.f k n z = some (putOf n z)
  | 0, n, k, _, _, h, _, _ => by omega
  | z + 1, n, k, hn, hn', h1, h7, hk => by
    obtain ⟨k, rfl⟩ : ∃ m, k = m + 2 := ⟨k - 2, by omega⟩
    have hp : (0 : Int) < 256 ^ (z + 1) := Int.pow_pos (by decide)
    unfold intrusionref01_Put.f
    rw [if_neg (by omega), if_neg (by omega), power_is (z + 1) h7 _ (by omega)]
    unfold putOf
    simp only [Option.bind_some, Int.toNat_natCast]
    by_cases h0 : n < 0
    · rw [if_pos h0, if_neg (by omega)]
      unfold intrusionref01_Put.j0
      simp
    · rw [if_neg h0]
      by_cases hb : n < 256 ^ (z + 1)
      · rw [if_pos ⟨by omega, by omega, by omega, hb⟩, decide_eq_false (by omega)]
        unfold intrusionref01_Put.j0
        simp only [Bool.false_eq_true, if_false]
        by_cases hz : z = 0
        · subst hz
          simp [beN]
        · rw [if_neg (by omega), w64 (n := ((z + 1 : Nat) : Int) - 1) (by omega) (by omega), Int.tdiv_eq_ediv_of_nonneg (by omega), w64 (n := n / 256) (by omega) (by omega), Int.tmod_eq_emod_of_nonneg (by omega),
            show ((z + 1 : Nat) : Int) - 1 = (z : Int) by omega, rput_is z (n / 256) k (by omega) (by omega) (by omega) (by omega) (by omega)]
          have hb2 : n / 256 < 256 ^ z := by
            rw [Int.pow_succ] at hb
            exact Int.ediv_lt_of_lt_mul (by omega) hb
          have hs : (putOf (n / 256) z).size ≤ 7 := putOf_len _ _
          simp only [Option.bind_some]
          rw [if_pos (by rw [strOfNums_size]; simp; omega), show n % 256 % 256 = n % 256 by omega, beN_snoc, strOfNums_append]
          unfold putOf
          rw [if_pos ⟨by omega, by omega, by omega, by simpa using hb2⟩]
          simp
      · rw [if_neg (fun h => hb h.2.2.2), decide_eq_true (by omega)]
        unfold intrusionref01_Put.j0
        simp
theorem rput_all (n size : Int) (k : Nat) (hn : -9223372036854775808 ≤ n) (hn' : n < 9223372036854775808) (hk : 40 ≤ k) : intrusionref01_Put.f k n size = some (putOf n size) := by
  by_cases h1 : 1 ≤ size
  · by_cases h7 : size ≤ 7
    · obtain ⟨z, rfl⟩ := Int.eq_ofNat_of_zero_le (show 0 ≤ size by omega)
      exact rput_is z n k hn hn' (by omega) (by omega) (by omega)
    · obtain ⟨k, rfl⟩ : ∃ m, k = m + 2 := ⟨k - 2, by omega⟩
      unfold intrusionref01_Put.f intrusionref01_Put.j0 putOf
      have hx : ¬ (1 ≤ size ∧ size ≤ 7 ∧ 0 ≤ n ∧ n < 256 ^ size.toNat) := fun h => h7 h.2.1
      rw [if_neg (by omega), if_pos (by omega), if_neg hx]
      rfl
  · obtain ⟨k, rfl⟩ : ∃ m, k = m + 2 := ⟨k - 2, by omega⟩
    unfold intrusionref01_Put.f intrusionref01_Put.j0 putOf
    have hx : ¬ (1 ≤ size ∧ size ≤ 7 ∧ 0 ≤ n ∧ n < 256 ^ size.toNat) := fun h => h1 h.1
    rw [if_pos (by omega), if_neg hx]
    rfl

theorem rB_loop1 (v : Bool) (hi lo : Int) : ∀ (m k : Nat) (x : List Int), m ≤ 8 → x.length ≤ 16 - m →
    intrusionref06_Bytes.l1 (k + m + 1) x ((m : Int) - 1) v hi lo = some (strOfNums (x ++ beN m lo))
  | 0, k, x, h, hx => by
    unfold intrusionref06_Bytes.l1
    rw [if_neg (by omega)]
    simp [beN]
  | m + 1, k, x, h, hx => by
    rw [show k + (m + 1) + 1 = (k + m + 1) + 1 by omega]
    unfold intrusionref06_Bytes.l1
    rw [show ((m + 1 : Nat) : Int) - 1 = (m : Int) by omega, w64 (n := 8 * (m : Int)) (by omega) (by omega), wu64 (n := 8 * (m : Int)) (by omega) (by omega), w64 (n := (m : Int) - 1) (by omega) (by omega),
      if_pos (by omega), if_pos (by omega), if_pos (by omega), shrU64 lo m (by omega), rB_loop1 v hi lo m k _ (by omega) (by simp; omega)]
    simp [beN]
theorem rB_loop0 (v : Bool) (hi lo : Int) : ∀ (m k : Nat) (x : List Int), m ≤ 8 → x.length ≤ 8 - m →
    intrusionref06_Bytes.l0 (k + m + 10) x ((m : Int) - 1) v hi lo = some (strOfNums (x ++ beN m hi ++ beN 8 lo))
  | 0, k, x, h, hx => by
    rw [show k + 0 + 10 = (k + 8 + 1) + 1 by omega]
    unfold intrusionref06_Bytes.l0
    rw [if_neg (by omega)]
    have := rB_loop1 v hi lo 8 k x (by omega) (by omega)
    rw [show ((8 : Nat) : Int) - 1 = 7 by omega] at this
    rw [this]
    simp [beN]
  | m + 1, k, x, h, hx => by
    rw [show k + (m + 1) + 10 = (k + m + 10) + 1 by omega]
    unfold intrusionref06_Bytes.l0
    rw [show ((m + 1 : Nat) : Int) - 1 = (m : Int) by omega, w64 (n := 8 * (m : Int)) (by omega) (by omega), wu64 (n := 8 * (m : Int)) (by omega) (by omega), w64 (n := (m : Int) - 1) (by omega) (by omega),
      if_pos (by omega), if_pos (by omega), if_pos (by omega), shrU64 hi m (by omega), rB_loop0 v hi lo m k _ (by omega) (by simp; omega)]
    simp [beN]
theorem rB_loop2 (v : Bool) (hi lo : Int) : ∀ (m k : Nat) (x : List Int), m ≤ 4 → x.length ≤ 4 - m →
    intrusionref06_Bytes.l2 (k + m + 1) x ((m : Int) - 1) v hi lo = some (strOfNums (x ++ beN m lo))
  | 0, k, x, h, hx => by
    unfold intrusionref06_Bytes.l2
    rw [if_neg (by omega)]
    simp [beN]
  | m + 1, k, x, h, hx => by
    rw [show k + (m + 1) + 1 = (k + m + 1) + 1 by omega]
    unfold intrusionref06_Bytes.l2
    rw [show ((m + 1 : Nat) : Int) - 1 = (m : Int) by omega, w64 (n := 8 * (m : Int)) (by omega) (by omega), wu64 (n := 8 * (m : Int)) (by omega) (by omega), w64 (n := (m : Int) - 1) (by omega) (by omega),
      if_pos (by omega), if_pos (by omega), if_pos (by omega), shrU64 lo m (by omega), rB_loop2 v hi lo m k _ (by omega) (by simp; omega)]
    simp [beN]
theorem rBytes_is (v6 : Bool) (hi lo : Int) (k : Nat) (hk : 20 ≤ k) : intrusionref06_Bytes.f k v6 hi lo = some (strOfNums (adrB v6 hi lo)) := by
  unfold intrusionref06_Bytes.f adrB
  split
  · have h := rB_loop0 v6 hi lo 8 (k - 18) [] (by omega) (by simp)
    rw [show k - 18 + 8 + 10 = k by omega, show ((8 : Nat) : Int) - 1 = 7 by omega] at h
    rw [h]; simp
  · have h := rB_loop2 v6 hi lo 4 (k - 5) [] (by omega) (by simp)
    rw [show k - 5 + 4 + 1 = k by omega, show ((4 : Nat) : Int) - 1 = 3 by omega] at h
    rw [h]; simp

theorem put_ok4 (n : Int) (z : Nat) (h1 : 1 ≤ z) (h7 : z ≤ 7) (h0 : 0 ≤ n) (hn : n < 256 ^ z) : putOf n z = strOfNums (beN z n) := by
  unfold putOf
  rw [if_pos ⟨by omega, by omega, h0, by rw [Int.toNat_natCast]; exact hn⟩, Int.toNat_natCast]
theorem put14 (n : Int) (h0 : 0 ≤ n) (hn : n ≤ 255) : putOf n 1 = strOfNums [n] := by
  have h := put_ok4 n 1 (by omega) (by omega) h0 (by omega)
  rw [show ((1 : Nat) : Int) = 1 from rfl] at h
  rw [h]
  simp [beN]
  congr 1
  congr 1
  omega
theorem put24 (n : Int) (h0 : 0 ≤ n) (hn : n ≤ 65535) : putOf n 2 = strOfNums (beN 2 n) := put_ok4 n 2 (by omega) (by omega) h0 (by omega)
theorem or64 : ∀ m : Fin 16, Go.bits .or .i64 64 (m.val : Int) = 64 + m.val := by decide +kernel
theorem or_first (n : Nat) (h : n ≤ 40) (h4 : n % 4 = 0) : Go.bits .or .i64 64 (wrap64 (Int.tdiv (20 + (n : Int)) 4)) = 64 + (20 + (n : Int)) / 4 := by
  have e : Int.tdiv (20 + (n : Int)) 4 = (((20 + n) / 4 : Nat) : Int) := by rw [Int.tdiv_eq_ediv_of_nonneg (by omega)]; omega
  rw [e, w64 (by omega) (by omega)]
  have := or64 ⟨(20 + n) / 4, by omega⟩
  rw [this]
  show (64 : Int) + (((20 + n) / 4 : Nat) : Int) = _
  omega
def flg (off : Int) (dn mr : Bool) : Int := off / 8 + (if dn = true then 16384 else 0) + (if mr = true then 8192 else 0)
section
variable (c id tt pr : Int) (dn mr : Bool) (off : Int) (v : Bool) (s1 s2 : Int) (w : Bool) (d1 d2 : Int)
def h4A (o p : ByteArray) : List Int := [64 + (20 + (o.size : Int)) / 4] ++ [c] ++ beN 2 (20 + (o.size : Int) + p.size) ++ beN 2 id ++ beN 2 (flg off dn mr) ++ [tt] ++ [pr]
def h4B (o : ByteArray) : List Int := adrB v s1 s2 ++ adrB w d1 d2 ++ bytesOf o
def e4Of (o p : ByteArray) : ByteArray := strOfNums (h4A c id tt pr dn mr off o p ++ beN 2 (sumOf (strOfNums (h4A c id tt pr dn mr off o p ++ [0, 0] ++ h4B v s1 s2 w d1 d2 o))) ++ h4B v s1 s2 w d1 d2 o ++ bytesOf p)
def okN4 : Prop := (0 ≤ c ∧ c ≤ 255) ∧ (0 ≤ tt ∧ tt ≤ 255) ∧ (0 ≤ pr ∧ pr ≤ 255) ∧ (0 ≤ id ∧ id ≤ 65535) ∧ (0 ≤ off ∧ off ≤ 65528) ∧ Int.tmod off 8 = 0
instance : Decidable (okN4 c id tt pr off) := by unfold okN4; infer_instance
def ok4 : Prop := okN4 c id tt pr off ∧ (v = false ∧ s1 = 0 ∧ s2 ≤ 4294967295) ∧ (w = false ∧ d1 = 0 ∧ d2 ≤ 4294967295)
instance : Decidable (ok4 c id tt pr off v s1 s2 w d1 d2) := by unfold ok4; infer_instance
theorem flg_range (h0 : 0 ≤ off) (h1 : off ≤ 65528) : 0 ≤ flg off dn mr ∧ flg off dn mr ≤ 65535 := by
  unfold flg
  split <;> split <;> omega
theorem z00 : (⟨#[0, 0]⟩ : ByteArray) = strOfNums [0, 0] := by decide +kernel
theorem two_str (a b : Int) : strOfNums [a, b] = strOfNums [a] ++ strOfNums [b] := strOfNums_append [a] [b]
variable (l : List S50)
theorem j2_4 (o p : ByteArray) (ho : o.size ≤ 40) (ho4 : o.size % 4 = 0) (hp : 20 + o.size + p.size ≤ 65535) (hN : okN4 c id tt pr off) (k : Nat) (hk : 65600 ≤ k) :
    ipv4_Encode.j2 (k + 1) o (20 + (o.size : Int)) (flg off dn mr) c id tt pr dn mr off v s1 s2 w d1 d2 l p = some (e4Of c id tt pr dn mr off v s1 s2 w d1 d2 o p, 0) := by
  obtain ⟨hc, htt, hpr, hid, hoff, -⟩ := hN
  have hf := flg_range dn mr off hoff.1 hoff.2
  have a1 := adrB_len v s1 s2
  have a2 := adrB_len w d1 d2
  have a1' : (adrB v s1 s2).length ≤ 16 := by rw [a1]; split <;> omega
  have a2' : (adrB w d1 d2).length ≤ 16 := by rw [a2]; split <;> omega
  clear a1 a2
  have zs : ∀ q : List Int, (strOfNums q).size = q.length := strOfNums_size
  have P1 : field_Put.f k (64 + (20 + (o.size : Int)) / 4) 1 = some (strOfNums [64 + (20 + (o.size : Int)) / 4]) := by rw [put_is _ _ k (by omega), put14 _ (by omega) (by omega)]
  have P2 : field_Put.f k c 1 = some (strOfNums [c]) := by rw [put_is _ _ k (by omega), put14 _ hc.1 hc.2]
  have P3 : field_Put.f k (20 + (o.size : Int) + p.size) 2 = some (strOfNums (beN 2 (20 + (o.size : Int) + p.size))) := by rw [put_is _ _ k (by omega), put24 _ (by omega) (by omega)]
  have P4 : field_Put.f k id 2 = some (strOfNums (beN 2 id)) := by rw [put_is _ _ k (by omega), put24 _ hid.1 hid.2]
  have P5 : field_Put.f k (flg off dn mr) 2 = some (strOfNums (beN 2 (flg off dn mr))) := by rw [put_is _ _ k (by omega), put24 _ hf.1 hf.2]
  have P6 : field_Put.f k tt 1 = some (strOfNums [tt]) := by rw [put_is _ _ k (by omega), put14 _ htt.1 htt.2]
  have P7 : field_Put.f k pr 1 = some (strOfNums [pr]) := by rw [put_is _ _ k (by omega), put14 _ hpr.1 hpr.2]
  have hS := sumOf_range (strOfNums (h4A c id tt pr dn mr off o p ++ [0, 0] ++ h4B v s1 s2 w d1 d2 o))
  have P8 : field_Put.f k (sumOf (strOfNums (h4A c id tt pr dn mr off o p ++ [0, 0] ++ h4B v s1 s2 w d1 d2 o))) 2 = some (strOfNums (beN 2 (sumOf (strOfNums (h4A c id tt pr dn mr off o p ++ [0, 0] ++ h4B v s1 s2 w d1 d2 o))))) := by rw [put_is _ _ k (by omega), put24 _ hS.1 hS.2]
  have eA : strOfNums [64 + (20 + (o.size : Int)) / 4] ++ strOfNums [c] ++ strOfNums (beN 2 (20 + (o.size : Int) + p.size)) ++ strOfNums (beN 2 id) ++ strOfNums (beN 2 (flg off dn mr)) ++ strOfNums [tt] ++ strOfNums [pr] = strOfNums (h4A c id tt pr dn mr off o p) := by
    unfold h4A
    simp only [strOfNums_append]
  have eB : strOfNums (adrB v s1 s2) ++ strOfNums (adrB w d1 d2) ++ o = strOfNums (h4B v s1 s2 w d1 d2 o) := by
    unfold h4B
    simp only [strOfNums_append, str_bytes]
  have zA : (h4A c id tt pr dn mr off o p).length = 10 := by unfold h4A; simp [beN_length]
  have zB : (h4B v s1 s2 w d1 d2 o).length ≤ 32 + o.size := by unfold h4B; simp only [List.length_append, bytesOf_length]; omega
  rw [ipv4_Encode.j2, or_first o.size ho ho4, P1]
  simp only [bs]
  rw [P2]
  simp only [bs]
  rw [if_pos (by simp only [size_append, zs, beN_length, List.length_cons, List.length_nil]; omega), w64 (n := 20 + (o.size : Int) + p.size) (by omega) (by omega), P3]
  simp only [bs]
  rw [if_pos (by simp only [size_append, zs, beN_length, List.length_cons, List.length_nil]; omega), P4]
  simp only [bs]
  rw [if_pos (by simp only [size_append, zs, beN_length, List.length_cons, List.length_nil]; omega), P5]
  simp only [bs]
  rw [if_pos (by simp only [size_append, zs, beN_length, List.length_cons, List.length_nil]; omega), P6]
  simp only [bs]
  rw [if_pos (by simp only [size_append, zs, beN_length, List.length_cons, List.length_nil]; omega), P7]
  simp only [bs]
  rw [if_pos (by simp only [size_append, zs, beN_length, List.length_cons, List.length_nil]; omega), aBytes_is _ _ _ k (by omega), aBytes_is _ _ _ k (by omega)]
  simp only [bs]
  rw [eA, eB, z00, if_pos (by simp only [zs]; omega), if_pos (by simp only [size_append, zs]; omega), if_pos (by simp only [zs, List.length_cons, List.length_nil]; omega), if_pos (by simp only [size_append, zs, List.length_cons, List.length_nil]; omega), ← strOfNums_append, ← strOfNums_append, sum_is _ (by simp only [zs, List.length_append, List.length_cons, List.length_nil]; omega) k (by simp only [zs, List.length_append, List.length_cons, List.length_nil]; omega)]
  simp only [bs]
  rw [P8]
  simp only [bs]
  rw [if_pos (by simp only [zs, beN_length]; omega), if_pos (by simp only [size_append, zs, beN_length]; omega), if_pos (by simp only [size_append, zs, beN_length]; omega)]
  unfold e4Of
  simp only [strOfNums_append, str_bytes]
theorem rj2_4 (o p : ByteArray) (ho : o.size ≤ 40) (ho4 : o.size % 4 = 0) (hp : 20 + o.size + p.size ≤ 65535) (hN : okN4 c id tt pr off) (k : Nat) (hk : 65600 ≤ k) :
    intrusionref11_Encode.j2 (k + 1) o (20 + (o.size : Int)) (flg off dn mr) c id tt pr dn mr off v s1 s2 w d1 d2 l p = some (e4Of c id tt pr dn mr off v s1 s2 w d1 d2 o p, 0) := by
  obtain ⟨hc, htt, hpr, hid, hoff, -⟩ := hN
  have hf := flg_range dn mr off hoff.1 hoff.2
  have a1 := adrB_len v s1 s2
  have a2 := adrB_len w d1 d2
  have a1' : (adrB v s1 s2).length ≤ 16 := by rw [a1]; split <;> omega
  have a2' : (adrB w d1 d2).length ≤ 16 := by rw [a2]; split <;> omega
  clear a1 a2
  have zs : ∀ q : List Int, (strOfNums q).size = q.length := strOfNums_size
  have P3 : intrusionref01_Put.f k (20 + (o.size : Int) + p.size) 2 = some (strOfNums (beN 2 (20 + (o.size : Int) + p.size))) := by rw [rput_all _ _ k (by omega) (by omega) (by omega), put24 _ (by omega) (by omega)]
  have P4 : intrusionref01_Put.f k id 2 = some (strOfNums (beN 2 id)) := by rw [rput_all _ _ k (by omega) (by omega) (by omega), put24 _ hid.1 hid.2]
  have P5 : intrusionref01_Put.f k (flg off dn mr) 2 = some (strOfNums (beN 2 (flg off dn mr))) := by rw [rput_all _ _ k (by omega) (by omega) (by omega), put24 _ hf.1 hf.2]
  have hS := sumOf_range (strOfNums (h4A c id tt pr dn mr off o p ++ [0, 0] ++ h4B v s1 s2 w d1 d2 o))
  have P8 : intrusionref01_Put.f k (sumOf (strOfNums (h4A c id tt pr dn mr off o p ++ [0, 0] ++ h4B v s1 s2 w d1 d2 o))) 2 = some (strOfNums (beN 2 (sumOf (strOfNums (h4A c id tt pr dn mr off o p ++ [0, 0] ++ h4B v s1 s2 w d1 d2 o))))) := by rw [rput_all _ _ k (by omega) (by omega) (by omega), put24 _ hS.1 hS.2]
  have eA : strOfNums [64 + (20 + (o.size : Int)) / 4, c] ++ strOfNums (beN 2 (20 + (o.size : Int) + p.size)) ++ strOfNums (beN 2 id) ++ strOfNums (beN 2 (flg off dn mr)) ++ strOfNums [tt, pr] = strOfNums (h4A c id tt pr dn mr off o p) := by
    unfold h4A
    simp only [strOfNums_append, two_str, app_assoc]
  have eB : strOfNums (adrB v s1 s2) ++ strOfNums (adrB w d1 d2) ++ o = strOfNums (h4B v s1 s2 w d1 d2 o) := by
    unfold h4B
    simp only [strOfNums_append, str_bytes]
  have zA : (h4A c id tt pr dn mr off o p).length = 10 := by unfold h4A; simp [beN_length]
  have zB : (h4B v s1 s2 w d1 d2 o).length ≤ 32 + o.size := by unfold h4B; simp only [List.length_append, bytesOf_length]; omega
  have e1 : (wrap64 (64 + (wrap64 (Int.tdiv (20 + (o.size : Int)) 4)))) % 256 = 64 + (20 + (o.size : Int)) / 4 := by
    have e : Int.tdiv (20 + (o.size : Int)) 4 = (20 + (o.size : Int)) / 4 := Int.tdiv_eq_ediv_of_nonneg (by omega)
    rw [e, w64 (n := (20 + (o.size : Int)) / 4) (by omega) (by omega), w64 (by omega) (by omega)]
    omega
  rw [intrusionref11_Encode.j2, e1, show c % 256 = c by omega, show tt % 256 = tt by omega, show pr % 256 = pr by omega, w64 (n := 20 + (o.size : Int) + p.size) (by omega) (by omega)]
  simp only [bs]
  rw [P3]
  simp only [bs]
  rw [if_pos (by simp only [size_append, zs, beN_length, List.length_cons, List.length_nil]; omega), P4]
  simp only [bs]
  rw [if_pos (by simp only [size_append, zs, beN_length, List.length_cons, List.length_nil]; omega), P5]
  simp only [bs]
  rw [if_pos (by simp only [size_append, zs, beN_length, List.length_cons, List.length_nil]; omega), if_pos (by simp only [size_append, zs, beN_length, List.length_cons, List.length_nil]; omega), rBytes_is _ _ _ k (by omega), rBytes_is _ _ _ k (by omega)]
  simp only [bs]
  rw [eA, eB, z00, if_pos (by simp only [zs]; omega), if_pos (by simp only [size_append, zs]; omega), if_pos (by simp only [zs, List.length_cons, List.length_nil]; omega), if_pos (by simp only [size_append, zs, List.length_cons, List.length_nil]; omega), ← strOfNums_append, ← strOfNums_append, rsum_is _ (by simp only [zs, List.length_append, List.length_cons, List.length_nil]; omega) k (by simp only [zs, List.length_append, List.length_cons, List.length_nil]; omega)]
  simp only [bs]
  rw [P8]
  simp only [bs]
  rw [if_pos (by simp only [zs, beN_length]; omega), if_pos (by simp only [size_append, zs, beN_length]; omega), if_pos (by simp only [size_append, zs, beN_length]; omega)]
  unfold e4Of
  simp only [strOfNums_append, str_bytes]
end
theorem outside_is (x m : Int) : ipv4_outside.f x m = some (!decide (0 ≤ x ∧ x ≤ m)) := by
  unfold ipv4_outside.f
  by_cases a : x < 0
  · rw [if_pos a, decide_eq_false (fun z => by omega)]; rfl
  · rw [if_neg a]
    by_cases b : x > m
    · rw [decide_eq_true b, decide_eq_false (fun z => by omega)]; rfl
    · rw [decide_eq_false b, decide_eq_true (show 0 ≤ x ∧ x ≤ m by omega)]; rfl
theorem host_is (v : Bool) (s1 s2 : Int) : ipv4_host.f v s1 s2 = some (decide (v = false ∧ s1 = 0 ∧ s2 ≤ 4294967295)) := by
  unfold ipv4_host.f address_Valid.f
  cases v with
  | true => rw [if_pos rfl]; simp
  | false =>
    rw [if_neg (by decide), if_neg (by decide)]
    by_cases a : s1 = 0
    · rw [if_pos a]
      simp [bs, a]
    · rw [if_neg a]
      simp [bs, a]
theorem raddress_is (v : Bool) (s1 s2 : Int) : intrusionref11_address.f v s1 s2 = some (decide (v = false ∧ s1 = 0 ∧ s2 ≤ 4294967295)) := by
  unfold intrusionref11_address.f intrusionref06_Valid.f
  cases v with
  | true => simp
  | false =>
    rw [if_neg (by decide)]
    by_cases a : s1 = 0
    · rw [if_pos a]
      simp only [bs]
      by_cases b : s2 < 4294967296
      · rw [if_pos (by simp [b])]
        simp [a]; omega
      · rw [if_neg (by simp [b])]
        simp [a]; omega
    · rw [if_neg a]
      simp [bs, a]
theorem ifnd {α : Type} (P : Prop) [Decidable P] (A B : α) : (if (!decide P) = true then A else B) = if P then B else A := by
  by_cases h : P
  · rw [if_pos h, if_neg (by simp [h])]
  · rw [if_neg h, if_pos (by simp [h])]
theorem ifd {α : Type} (P : Prop) [Decidable P] (A B : α) : (if decide P = true then A else B) = if P then A else B := by
  by_cases h : P
  · rw [if_pos h, if_pos (by simp [h])]
  · rw [if_neg h, if_neg (by simp [h])]
section
variable (c id tt pr : Int) (dn mr : Bool) (off : Int) (v : Bool) (s1 s2 : Int) (w : Bool) (d1 d2 : Int) (p : ByteArray)
def enc0Of : ByteArray × Int := if ok4 c id tt pr off v s1 s2 w d1 d2 then (if 20 + (p.size : Int) > 65535 then (⟨#[]⟩, 3) else (e4Of c id tt pr false false off v s1 s2 w d1 d2 ⟨#[]⟩ p, 0)) else (⟨#[]⟩, 4)
end

def optB (x : S50) : List Int := x.f0 :: ((x.f1.size : Int) + 2) :: bytesOf x.f1
def optsB : List S50 → List Int
  | [] => []
  | x :: r => optB x ++ optsB r
def padN (n : Nat) : Nat := (4 - n % 4) % 4
def wrB (l : List S50) : List Int := optsB l ++ List.replicate (padN (optsB l).length) 0
def okK (l : List S50) : Prop := ∀ x ∈ l, 2 ≤ x.f0 ∧ x.f0 ≤ 255
instance (l : List S50) : Decidable (okK l) := by unfold okK; infer_instance
theorem optB_len (x : S50) : (optB x).length = 2 + x.f1.size := by unfold optB; have := bytesOf_length x.f1; simp; omega
theorem optsB_append : ∀ a b : List S50, optsB (a ++ b) = optsB a ++ optsB b
  | [], b => rfl
  | x :: a, b => by simp only [List.cons_append, optsB, optsB_append a b, List.append_assoc]
theorem optsB_at (l : List S50) (i : Nat) (h : i < l.length) : optsB l = optsB (l.take i) ++ (optB l[i] ++ optsB (l.drop (i + 1))) := by
  have e : l = l.take i ++ (l[i] :: l.drop (i + 1)) := by rw [← List.drop_eq_getElem_cons h, List.take_append_drop]
  have e2 := congrArg optsB e
  rw [optsB_append] at e2
  exact e2
theorem optsB_take (l : List S50) (i : Nat) (h : i < l.length) : optsB (l.take (i + 1)) = optsB (l.take i) ++ optB l[i] := by
  rw [List.take_succ_eq_append_getElem h, optsB_append]
  simp [optsB]
theorem rd125 (l : List S50) (i : Nat) (h : i < l.length) : rd_T50 l (i : Int) = l[i] := by
  unfold rd_T50
  rw [Int.toNat_natCast, List.getD_eq_getElem?_getD, List.getElem?_eq_getElem h]
  rfl
theorem z0s : (⟨#[0]⟩ : ByteArray) = strOfNums [0] := by decide +kernel
theorem pad_app (b : List Int) (m : Nat) : b ++ [0] ++ List.replicate m (0 : Int) = b ++ List.replicate (m + 1) 0 := by rw [List.replicate_succ, List.append_assoc]; rfl
theorem pad_loop (hz : ∀ q : List Int, (strOfNums q).size = q.length) : ∀ (m k : Nat) (b : List Int), padN b.length = m → b.length ≤ 1000 → ipv4_written.l1 (k + m + 1) (strOfNums b) = some (strOfNums (b ++ List.replicate m 0), true)
  | 0, k, b, h, hb => by
    unfold padN at h
    rw [ipv4_written.l1, hz, if_neg (by omega)]
    simp
  | m + 1, k, b, h, hb => by
    unfold padN at h
    rw [show k + (m + 1) + 1 = (k + m + 1) + 1 by omega, ipv4_written.l1, hz, if_pos (by omega), if_pos (by omega), z0s, ← strOfNums_append,
      pad_loop hz m k (b ++ [0]) (by unfold padN; rw [List.length_append]; simp; omega) (by rw [List.length_append]; simp; omega), pad_app]
theorem written_loop (l : List S50) (hl : l.length ≤ 4611686018427387904) (hK : okK l) : ∀ (m i k : Nat), i + m = l.length → (optsB (l.take i)).length ≤ 100 →
    ipv4_written.l0 (k + m + 60) l (strOfNums (optsB (l.take i))) (i : Int) = some (if (optsB l).length > 40 then (⟨#[]⟩, false) else (strOfNums (wrB l), true))
  | 0, i, k, h, hs => by
    have zs : ∀ q : List Int, (strOfNums q).size = q.length := strOfNums_size
    rw [show k + 0 + 60 = (k + 59) + 1 by omega, ipv4_written.l0, if_neg (by omega), List.take_of_length_le (by omega), zs]
    by_cases a : (optsB l).length > 40
    · rw [if_pos (by omega), if_pos a]
    · have hp : padN (optsB l).length ≤ 3 := by unfold padN; omega
      rw [if_neg (by omega), if_neg a]
      have := pad_loop zs (padN (optsB l).length) (k + 58 - padN (optsB l).length) (optsB l) rfl (by omega)
      rw [show k + 58 - padN (optsB l).length + padN (optsB l).length + 1 = k + 59 by omega] at this
      exact this
  | m + 1, i, k, h, hs => by
    have zs : ∀ q : List Int, (strOfNums q).size = q.length := strOfNums_size
    have hlt : i < l.length := by omega
    have hk := hK l[i] (List.getElem_mem hlt)
    have hat := congrArg List.length (optsB_at l i hlt)
    rw [List.length_append, List.length_append, optB_len] at hat
    rw [show k + (m + 1) + 60 = (k + m + 60) + 1 by omega, ipv4_written.l0, if_pos (by omega), if_pos (by omega), rd125 l i hlt, zs]
    by_cases a : (l[i].f1.size : Int) > 38
    · rw [if_pos a, if_pos (by omega)]
    rw [if_neg a]
    by_cases b : ((optsB (l.take i)).length : Int) > 40
    · rw [if_pos b, if_pos (by omega)]
    rw [if_neg b, put_is _ _ _ (by omega), put14 _ (by omega) (by omega)]
    simp only [bs]
    rw [w64 (n := (l[i].f1.size : Int) + 2) (by omega) (by omega), put_is _ _ _ (by omega), put14 _ (by omega) (by omega)]
    simp only [bs]
    have ea : strOfNums (optsB (l.take i)) ++ (strOfNums [l[i].f0] ++ strOfNums [(l[i].f1.size : Int) + 2] ++ l[i].f1) = strOfNums (optsB (l.take (i + 1))) := by
      rw [optsB_take l i hlt]
      unfold optB
      rw [show l[i].f0 :: ((l[i].f1.size : Int) + 2) :: bytesOf l[i].f1 = [l[i].f0] ++ [(l[i].f1.size : Int) + 2] ++ bytesOf l[i].f1 from rfl, strOfNums_append, strOfNums_append, strOfNums_append, str_bytes]
    rw [if_pos (by rw [zs, zs]; simp), ea, w64 (n := (i : Int) + 1) (by omega) (by omega), show (i : Int) + 1 = ((i + 1 : Nat) : Int) by omega,
      written_loop l hl hK m (i + 1) k (by omega) (by rw [optsB_take l i hlt, List.length_append, optB_len]; omega)]
theorem written_is (l : List S50) (hl : l.length ≤ 4611686018427387904) (hK : okK l) (k : Nat) (hk : l.length + 60 ≤ k) :
    ipv4_written.f k l = some (if (optsB l).length > 40 then (⟨#[]⟩, false) else (strOfNums (wrB l), true)) := by
  have := written_loop l hl hK l.length 0 (k - l.length - 60) (by omega) (by simp [optsB])
  rw [show k - l.length - 60 + l.length + 60 = k by omega] at this
  unfold ipv4_written.f
  exact this
theorem bad_iff (x : S50) : badKind x = true ↔ ¬ (2 ≤ x.f0 ∧ x.f0 ≤ 255) := by
  unfold badKind
  rw [decide_eq_true_iff]
  omega
theorem contains_loop (l : List S50) (hl : l.length ≤ 4611686018427387904) : ∀ (m i k : Nat), i + m = l.length →
    ∃ j : Int, api_Option_46.l0 (k + m + 1) l (i : Int) = some j ∧ (j ≥ 0 ↔ ¬ okK (l.drop i))
  | 0, i, k, h => by
    refine ⟨-1, by rw [api_Option_46.l0, if_neg (by omega)], ?_⟩
    rw [List.drop_eq_nil_of_le (by omega)]
    simp [okK]
  | m + 1, i, k, h => by
    have hlt : i < l.length := by omega
    obtain ⟨j, hj, hj2⟩ := contains_loop l hl m (i + 1) k (by omega)
    rw [show k + (m + 1) + 1 = (k + m + 1) + 1 by omega, api_Option_46.l0, if_pos (by omega), if_pos (by omega), rd125 l i hlt, w64 (n := (i : Int) + 1) (by omega) (by omega), show (i : Int) + 1 = ((i + 1 : Nat) : Int) by omega, hj]
    by_cases b : badKind l[i] = true
    · refine ⟨i, by rw [if_pos b], ?_⟩
      constructor
      · intro _ ho
        exact (bad_iff _).mp b (ho l[i] (by rw [List.drop_eq_getElem_cons hlt]; exact List.mem_cons_self))
      · intro _; omega
    · refine ⟨j, by rw [if_neg b], ?_⟩
      rw [hj2, List.drop_eq_getElem_cons hlt]
      have hb : 2 ≤ l[i].f0 ∧ l[i].f0 ≤ 255 := Decidable.byContradiction fun z => b ((bad_iff _).mpr z)
      constructor
      · intro hn ho
        exact hn (fun x hx => ho x (List.mem_cons_of_mem _ hx))
      · intro hn ho
        exact hn (fun x hx => by
          rcases List.mem_cons.mp hx with rfl | hx
          · exact hb
          · exact ho x hx)
theorem contains_is (l : List S50) (hl : l.length ≤ 4611686018427387904) (k : Nat) (hk : l.length + 1 ≤ k) : api_Option_46.f k l = some (!decide (okK l)) := by
  obtain ⟨j, hj, hj2⟩ := contains_loop l hl l.length 0 (k - l.length - 1) (by omega)
  rw [show k - l.length - 1 + l.length + 1 = k by omega] at hj
  unfold api_Option_46.f
  rw [show ((0 : Nat) : Int) = 0 from rfl] at hj
  rw [hj]
  simp only [bs]
  rw [List.drop_zero] at hj2
  congr 1
  by_cases h : okK l
  · rw [decide_eq_true h, decide_eq_false (fun z => hj2.mp z h)]; rfl
  · rw [decide_eq_false h, decide_eq_true (hj2.mpr h)]; rfl
section
variable (c id tt pr : Int) (dn mr : Bool) (off : Int) (v : Bool) (s1 s2 : Int) (w : Bool) (d1 d2 : Int) (l : List S50) (p : ByteArray)
theorem inRange_is (hl : l.length ≤ 4611686018427387904) (k : Nat) (hk : l.length + 2 ≤ k) : ipv4_inRange.f k c id tt pr dn mr off v s1 s2 w d1 d2 l p = some (decide (ok4 c id tt pr off v s1 s2 w d1 d2 ∧ okK l)) := by
  obtain ⟨q, rfl⟩ : ∃ q, k = q + 1 := ⟨k - 1, by omega⟩
  have ho := contains_is l hl q (by omega)
  have hj : ∀ b : Bool, ipv4_inRange.j0 (q + 1) b c id tt pr dn mr off v s1 s2 w d1 d2 l p = some (!b && decide (((v = false ∧ s1 = 0 ∧ s2 ≤ 4294967295) ∧ (w = false ∧ d1 = 0 ∧ d2 ≤ 4294967295)) ∧ okK l)) := by
    intro b
    rw [ipv4_inRange.j0]
    cases b with
    | true => rw [if_pos rfl]; rfl
    | false =>
      rw [if_neg (by decide), host_is, host_is, ho]
      simp only [bs, ifd]
      by_cases a : v = false ∧ s1 = 0 ∧ s2 ≤ 4294967295
      · rw [if_pos a]
        by_cases b : w = false ∧ d1 = 0 ∧ d2 ≤ 4294967295
        · rw [if_pos b]
          congr 1
          by_cases e : okK l
          · rw [decide_eq_true e, decide_eq_true ⟨⟨a, b⟩, e⟩]; rfl
          · rw [decide_eq_false e, decide_eq_false (fun z => e z.2)]; rfl
        · rw [if_neg b, decide_eq_false (fun z => b z.1.2)]; rfl
      · rw [if_neg a, decide_eq_false (fun z => a z.1.1)]; rfl
  unfold ipv4_inRange.f
  simp only [outside_is, bs, hj, ifnd]
  by_cases h1 : 0 ≤ c ∧ c ≤ 255
  · rw [if_pos h1]
    by_cases h2 : 0 ≤ tt ∧ tt ≤ 255
    · rw [if_pos h2]
      by_cases h3 : 0 ≤ pr ∧ pr ≤ 255
      · rw [if_pos h3]
        by_cases h4 : 0 ≤ id ∧ id ≤ 65535
        · rw [if_pos h4]
          by_cases h5 : 0 ≤ off ∧ off ≤ 65528
          · rw [if_pos h5]
            by_cases h6 : Int.tmod off 8 = 0
            · rw [show (Int.tmod off 8 != 0) = false by simp [h6]]
              congr 1
              rw [Bool.not_false, Bool.true_and]
              apply decide_eq_decide.mpr
              exact ⟨fun z => ⟨⟨⟨h1, h2, h3, h4, h5, h6⟩, z.1⟩, z.2⟩, fun z => ⟨z.1.2, z.2⟩⟩
            · rw [show (Int.tmod off 8 != 0) = true by simp [h6], decide_eq_false (fun z : ok4 c id tt pr off v s1 s2 w d1 d2 ∧ okK l => h6 z.1.1.2.2.2.2.2)]; rfl
          · rw [if_neg h5, decide_eq_false (fun z : ok4 c id tt pr off v s1 s2 w d1 d2 ∧ okK l => h5 z.1.1.2.2.2.2.1)]; rfl
        · rw [if_neg h4, decide_eq_false (fun z : ok4 c id tt pr off v s1 s2 w d1 d2 ∧ okK l => h4 z.1.1.2.2.2.1)]; rfl
      · rw [if_neg h3, decide_eq_false (fun z : ok4 c id tt pr off v s1 s2 w d1 d2 ∧ okK l => h3 z.1.1.2.2.1)]; rfl
    · rw [if_neg h2, decide_eq_false (fun z : ok4 c id tt pr off v s1 s2 w d1 d2 ∧ okK l => h2 z.1.1.2.1)]; rfl
  · rw [if_neg h1, decide_eq_false (fun z : ok4 c id tt pr off v s1 s2 w d1 d2 ∧ okK l => h1 z.1.1.1)]; rfl
theorem or_nat (a b : Nat) (ha : a < 4611686018427387904) (hb : b < 4611686018427387904) (hab : a ||| b < 4611686018427387904) : Go.bits .or .i64 (a : Int) (b : Int) = ((a ||| b : Nat) : Int) := by
  show IntKind.i64.wrap ((BitVec.ofInt 64 (a : Int) ||| BitVec.ofInt 64 (b : Int)).toNat : Int) = _
  rw [BitVec.toNat_or, ofInt_u64 a (by omega), ofInt_u64 b (by omega), Go.Lib.wrap_i64_small _ (by omega)]
theorem or_dont (x : Nat) (h : x < 8192) : Go.bits .or .i64 (x : Int) 16384 = (x : Int) + 16384 := by
  have e : x ||| 16384 = x + 16384 := by
    have := Nat.two_pow_add_eq_or_of_lt (i := 14) (b := x) (by omega) 1
    rw [Nat.or_comm, show (16384 : Nat) = 2 ^ 14 * 1 from rfl, ← this]
    omega
  have := or_nat x 16384 (by omega) (by omega) (by omega)
  rw [show ((16384 : Nat) : Int) = 16384 from rfl] at this
  rw [this, e]
  omega
theorem or_more (x a : Nat) (h : x < 8192) (ha : a = 0 ∨ a = 16384) : Go.bits .or .i64 ((x + a : Nat) : Int) 8192 = ((x + a : Nat) : Int) + 8192 := by
  have e : (x + a) ||| 8192 = x + a + 8192 := by
    rcases ha with rfl | rfl
    · have := Nat.two_pow_add_eq_or_of_lt (i := 13) (b := x) (by omega) 1
      rw [Nat.add_zero, Nat.or_comm, show (8192 : Nat) = 2 ^ 13 * 1 from rfl, ← this]
      omega
    · have h2 := Nat.two_pow_add_eq_or_of_lt (i := 13) (b := x) (by omega) 2
      have h3 := Nat.two_pow_add_eq_or_of_lt (i := 13) (b := x) (by omega) 3
      have e2 : x + 16384 = 2 ^ 13 * 2 ||| x := by omega
      rw [e2, Nat.or_assoc, Nat.or_comm x 8192, ← Nat.or_assoc, show 2 ^ 13 * 2 ||| 8192 = 2 ^ 13 * 3 by decide +kernel, ← h3]
      omega
  have := or_nat (x + a) 8192 (by rcases ha with rfl | rfl <;> omega) (by omega) (by rcases ha with rfl | rfl <;> omega)
  rw [show ((8192 : Nat) : Int) = 8192 from rfl] at this
  rw [this, e]
  omega
def enc4Of : ByteArray × Int := if ok4 c id tt pr off v s1 s2 w d1 d2 ∧ okK l then (if (optsB l).length > 40 ∨ 20 + (wrB l).length + p.size > 65535 then (⟨#[]⟩, 3) else (e4Of c id tt pr dn mr off v s1 s2 w d1 d2 (strOfNums (wrB l)) p, 0)) else (⟨#[]⟩, 4)
theorem wrB_len (h : (optsB l).length ≤ 40) : (wrB l).length ≤ 40 ∧ (wrB l).length % 4 = 0 ∧ (optsB l).length ≤ (wrB l).length := by
  unfold wrB padN
  rw [List.length_append, List.length_replicate]
  omega
theorem j1_4 (o : ByteArray) (ho : o.size ≤ 40) (ho4 : o.size % 4 = 0) (hp : 20 + o.size + p.size ≤ 65535) (hN : okN4 c id tt pr off) (k : Nat) (hk : 65600 ≤ k) (x : Int) (hx : x = off / 8 + (if dn = true then 16384 else 0)) :
    ipv4_Encode.j1 (k + 2) o (20 + (o.size : Int)) x c id tt pr dn mr off v s1 s2 w d1 d2 l p = some (e4Of c id tt pr dn mr off v s1 s2 w d1 d2 o p, 0) := by
  have hoff := hN.2.2.2.2.1
  have main := j2_4 c id tt pr dn mr off v s1 s2 w d1 d2 l o p ho ho4 hp hN k hk
  rw [ipv4_Encode.j1]
  cases hm : mr with
  | false =>
    rw [if_neg (by decide)]
    rw [hm] at main
    rw [show x = flg off dn false by rw [hx]; unfold flg; simp]
    exact main
  | true =>
    rw [if_pos rfl]
    rw [hm] at main
    have e : Go.bits .or .i64 x 8192 = flg off dn true := by
      cases dn with
      | false =>
        have := or_more (off / 8).toNat 0 (by omega) (.inl rfl)
        rw [show (((off / 8).toNat + 0 : Nat) : Int) = off / 8 by omega] at this
        rw [hx]; unfold flg; simpa using this
      | true =>
        have := or_more (off / 8).toNat 16384 (by omega) (.inr rfl)
        rw [show (((off / 8).toNat + 16384 : Nat) : Int) = off / 8 + 16384 by omega] at this
        rw [hx]; unfold flg; simpa using this
    rw [e]
    exact main
theorem encode4_is (hl : l.length ≤ 4611686018427387904) (hp : p.size ≤ 4611686018427387904) (k : Nat) (hk : l.length + 65700 ≤ k) :
    ipv4_Encode.f k c id tt pr dn mr off v s1 s2 w d1 d2 l p = some (enc4Of c id tt pr dn mr off v s1 s2 w d1 d2 l p) := by
  obtain ⟨q, rfl⟩ : ∃ q, k = q + 3 := ⟨k - 3, by omega⟩
  unfold ipv4_Encode.f enc4Of
  rw [inRange_is c id tt pr dn mr off v s1 s2 w d1 d2 l p hl _ (by omega)]
  simp only [bs, ifd]
  by_cases h : ok4 c id tt pr off v s1 s2 w d1 d2 ∧ okK l
  case neg => rw [if_neg h, if_neg h]
  rw [if_pos h, if_pos h, written_is l hl h.2 _ (by omega)]
  simp only [bs]
  by_cases a : (optsB l).length > 40
  · rw [if_pos a, if_pos (show (optsB l).length > 40 ∨ 20 + (wrB l).length + p.size > 65535 from .inl a)]
    simp only []
    rw [if_neg (by decide), ipv4_Encode.j0, if_pos rfl]
  obtain ⟨z1, z2, z3⟩ := wrB_len l (by omega)
  have zo : (strOfNums (wrB l)).size = (wrB l).length := strOfNums_size _
  have hoff := h.1.1.2.2.2.2.1
  rw [if_neg a]
  simp only []
  rw [if_pos trivial, ipv4_Encode.j0, w64 (n := 20 + ((strOfNums (wrB l)).size : Int)) (by omega) (by omega), w64 (n := 65535 - (20 + ((strOfNums (wrB l)).size : Int))) (by omega) (by omega)]
  by_cases b : 20 + (wrB l).length + p.size > 65535
  · rw [if_pos (decide_eq_true (by omega)), if_pos (show (optsB l).length > 40 ∨ 20 + (wrB l).length + p.size > 65535 from .inr b)]
  rw [if_neg (by rw [decide_eq_true_iff]; omega), if_neg (show ¬ ((optsB l).length > 40 ∨ 20 + (wrB l).length + p.size > 65535) by omega)]
  have e8 : wrap64 (Int.tdiv off 8) = off / 8 := by rw [Int.tdiv_eq_ediv_of_nonneg hoff.1, w64 (by omega) (by omega)]
  have main := fun x hx => j1_4 c id tt pr dn mr off v s1 s2 w d1 d2 l p (strOfNums (wrB l)) (by omega) (by omega) (by omega) h.1.1 q (by omega) x hx
  cases hd : dn with
  | false =>
    rw [if_neg (by decide), e8]
    rw [hd] at main
    exact main _ (by simp)
  | true =>
    rw [if_pos rfl, e8]
    rw [hd] at main
    have := or_dont (off / 8).toNat (by omega)
    rw [show ((off / 8).toNat : Int) = off / 8 by omega] at this
    rw [this]
    exact main _ (by simp)
end

theorem kinds_loop4 (l : List S50) (hl : l.length ≤ 4611686018427387904) : ∀ (m i k : Nat), i + m = l.length → intrusionref11_Kinds.l0 (k + m + 1) l (i : Int) = some (decide (okK (l.drop i)))
  | 0, i, k, h => by
    rw [intrusionref11_Kinds.l0, if_neg (by omega), List.drop_eq_nil_of_le (by omega), decide_eq_true (show okK ([] : List S50) from fun x hx => by cases hx)]
  | m + 1, i, k, h => by
    have hlt : i < l.length := by omega
    rw [show k + (m + 1) + 1 = (k + m + 1) + 1 by omega, intrusionref11_Kinds.l0, if_pos (by omega), if_pos (by omega), rd125 l i hlt, w64 (n := (i : Int) + 1) (by omega) (by omega), show (i : Int) + 1 = ((i + 1 : Nat) : Int) by omega, kinds_loop4 l hl m (i + 1) k (by omega), List.drop_eq_getElem_cons hlt]
    by_cases a : l[i].f0 < 2
    · rw [if_pos a, decide_eq_false (fun z : okK (l[i] :: l.drop (i + 1)) => by have := z l[i] List.mem_cons_self; omega)]
    rw [if_neg a]
    by_cases b : l[i].f0 > 255
    · rw [if_pos b, decide_eq_false (fun z : okK (l[i] :: l.drop (i + 1)) => by have := z l[i] List.mem_cons_self; omega)]
    rw [if_neg b]
    congr 1
    apply decide_eq_decide.mpr
    constructor
    · intro h x hx
      rcases List.mem_cons.mp hx with rfl | hx
      · omega
      · exact h x hx
    · intro h x hx
      exact h x (List.mem_cons_of_mem _ hx)
theorem kinds_is4 (l : List S50) (hl : l.length ≤ 4611686018427387904) (k : Nat) (hk : l.length + 1 ≤ k) : intrusionref11_Kinds.f k l = some (decide (okK l)) := by
  have := kinds_loop4 l hl l.length 0 (k - l.length - 1) (by omega)
  rw [show k - l.length - 1 + l.length + 1 = k by omega, List.drop_zero] at this
  exact this
def m41 (n : Nat) : Int := if n ≥ 41 then 41 else n
theorem need_loop (l : List S50) (hl : l.length ≤ 4611686018427387904) (hS : ∀ x ∈ l, x.f1.size ≤ 140737488351232) : ∀ (m i k : Nat), i + m = l.length →
    intrusionref11_Need.l0 (k + m + 1) l (m41 (optsB (l.take i)).length) (i : Int) = some (m41 (optsB l).length)
  | 0, i, k, h => by
    rw [intrusionref11_Need.l0, if_neg (by omega), List.take_of_length_le (by omega)]
  | m + 1, i, k, h => by
    have hlt : i < l.length := by omega
    have hs := hS l[i] (List.getElem_mem hlt)
    have hlen : (optsB (l.take (i + 1))).length = (optsB (l.take i)).length + (2 + l[i].f1.size) := by rw [optsB_take l i hlt, List.length_append, optB_len]
    have hm : 0 ≤ m41 (optsB (l.take i)).length ∧ m41 (optsB (l.take i)).length ≤ 41 := by unfold m41; split <;> omega
    have e : mn 41 (wrap64 (wrap64 (m41 (optsB (l.take i)).length + 2) + (l[i].f1.size : Int))) = m41 (optsB (l.take (i + 1))).length := by
      rw [w64 (n := m41 (optsB (l.take i)).length + 2) (by omega) (by omega), w64 (by omega) (by omega), hlen]
      unfold mn m41
      split <;> split <;> split <;> omega
    rw [show k + (m + 1) + 1 = (k + m + 1) + 1 by omega, intrusionref11_Need.l0, if_pos (by omega), if_pos (by omega), rd125 l i hlt, e, w64 (n := (i : Int) + 1) (by omega) (by omega), show (i : Int) + 1 = ((i + 1 : Nat) : Int) by omega, need_loop l hl hS m (i + 1) k (by omega)]
theorem need_is (l : List S50) (hl : l.length ≤ 4611686018427387904) (hS : ∀ x ∈ l, x.f1.size ≤ 140737488351232) (k : Nat) (hk : l.length + 1 ≤ k) : intrusionref11_Need.f k l = some (m41 (optsB l).length) := by
  have := need_loop l hl hS l.length 0 (k - l.length - 1) (by omega)
  rw [show k - l.length - 1 + l.length + 1 = k by omega] at this
  exact this
theorem rpad_loop (hz : ∀ q : List Int, (strOfNums q).size = q.length) : ∀ (m k : Nat) (b : List Int), padN b.length = m → b.length ≤ 1000 → intrusionref11_Written.l1 (k + m + 1) (strOfNums b) = some (strOfNums (b ++ List.replicate m 0))
  | 0, k, b, h, hb => by
    unfold padN at h
    rw [intrusionref11_Written.l1, hz, if_pos (by omega)]
    simp
  | m + 1, k, b, h, hb => by
    unfold padN at h
    rw [show k + (m + 1) + 1 = (k + m + 1) + 1 by omega, intrusionref11_Written.l1, hz, if_neg (by omega), if_pos (by omega), z0s, ← strOfNums_append,
      rpad_loop hz m k (b ++ [0]) (by unfold padN; rw [List.length_append]; simp; omega) (by rw [List.length_append]; simp; omega), pad_app]
theorem rwritten_loop (l : List S50) (hl : l.length ≤ 4611686018427387904) (hK : okK l) (h40 : (optsB l).length ≤ 40) : ∀ (m i k : Nat), i + m = l.length →
    intrusionref11_Written.l0 (k + m + 60) l (strOfNums (optsB (l.take i))) (i : Int) = some (strOfNums (wrB l))
  | 0, i, k, h => by
    have zs : ∀ q : List Int, (strOfNums q).size = q.length := strOfNums_size
    have hp : padN (optsB l).length ≤ 3 := by unfold padN; omega
    rw [show k + 0 + 60 = (k + 59) + 1 by omega, intrusionref11_Written.l0, if_neg (by omega), List.take_of_length_le (by omega)]
    have := rpad_loop zs (padN (optsB l).length) (k + 58 - padN (optsB l).length) (optsB l) rfl (by omega)
    rw [show k + 58 - padN (optsB l).length + padN (optsB l).length + 1 = k + 59 by omega] at this
    exact this
  | m + 1, i, k, h => by
    have zs : ∀ q : List Int, (strOfNums q).size = q.length := strOfNums_size
    have hlt : i < l.length := by omega
    have hk := hK l[i] (List.getElem_mem hlt)
    have hat := congrArg List.length (optsB_at l i hlt)
    rw [List.length_append, List.length_append, optB_len] at hat
    have ea : strOfNums (optsB (l.take i)) ++ strOfNums [l[i].f0, (l[i].f1.size : Int) + 2] ++ l[i].f1 = strOfNums (optsB (l.take (i + 1))) := by
      rw [optsB_take l i hlt]
      unfold optB
      rw [show l[i].f0 :: ((l[i].f1.size : Int) + 2) :: bytesOf l[i].f1 = [l[i].f0, (l[i].f1.size : Int) + 2] ++ bytesOf l[i].f1 from rfl, strOfNums_append, strOfNums_append, str_bytes, app_assoc]
    rw [show k + (m + 1) + 60 = (k + m + 60) + 1 by omega, intrusionref11_Written.l0, if_pos (by omega), if_pos (by omega), rd125 l i hlt, w64 (n := 2 + (l[i].f1.size : Int)) (by omega) (by omega), show l[i].f0 % 256 = l[i].f0 by omega, show (2 + (l[i].f1.size : Int)) % 256 = (l[i].f1.size : Int) + 2 by omega]
    simp only [bs]
    rw [if_pos (by rw [zs, zs]; simp; omega), if_pos (by rw [size_append, zs, zs]; simp; omega), ea, w64 (n := (i : Int) + 1) (by omega) (by omega), show (i : Int) + 1 = ((i + 1 : Nat) : Int) by omega,
      rwritten_loop l hl hK h40 m (i + 1) k (by omega)]
theorem rwritten_is (l : List S50) (hl : l.length ≤ 4611686018427387904) (hK : okK l) (h40 : (optsB l).length ≤ 40) (k : Nat) (hk : l.length + 60 ≤ k) : intrusionref11_Written.f k l = some (strOfNums (wrB l)) := by
  have := rwritten_loop l hl hK h40 l.length 0 (k - l.length - 60) (by omega)
  rw [show k - l.length - 60 + l.length + 60 = k by omega] at this
  exact this
section
variable (c id tt pr : Int) (dn mr : Bool) (off : Int) (v : Bool) (s1 s2 : Int) (w : Bool) (d1 d2 : Int) (l : List S50) (p : ByteArray)
theorem rj1_4 (o : ByteArray) (ho : o.size ≤ 40) (ho4 : o.size % 4 = 0) (hp : 20 + o.size + p.size ≤ 65535) (hN : okN4 c id tt pr off) (k : Nat) (hk : 65600 ≤ k) (x : Int) (hx : x = off / 8 + (if dn = true then 16384 else 0)) :
    intrusionref11_Encode.j1 (k + 2) o (20 + (o.size : Int)) x c id tt pr dn mr off v s1 s2 w d1 d2 l p = some (e4Of c id tt pr dn mr off v s1 s2 w d1 d2 o p, 0) := by
  have hoff := hN.2.2.2.2.1
  have main := rj2_4 c id tt pr dn mr off v s1 s2 w d1 d2 l o p ho ho4 hp hN k hk
  rw [intrusionref11_Encode.j1]
  cases hm : mr with
  | false =>
    rw [if_neg (by decide)]
    rw [hm] at main
    rw [show x = flg off dn false by rw [hx]; unfold flg; simp]
    exact main
  | true =>
    rw [if_pos rfl]
    rw [hm] at main
    rw [show wrap64 (x + 8192) = flg off dn true by rw [hx]; unfold flg; cases dn <;> simp <;> exact w64 (by omega) (by omega)]
    exact main
theorem rencode4_is (hl : l.length ≤ 4611686018427387904) (hS : ∀ x ∈ l, x.f1.size ≤ 140737488351232) (hp : p.size ≤ 4611686018427387904) (k : Nat) (hk : l.length + 65700 ≤ k) :
    intrusionref11_Encode.f k c id tt pr dn mr off v s1 s2 w d1 d2 l p = some (enc4Of c id tt pr dn mr off v s1 s2 w d1 d2 l p) := by
  obtain ⟨q, rfl⟩ : ∃ q, k = q + 3 := ⟨k - 3, by omega⟩
  have hb : ∀ x : Int, intrusionref11_byteSized.f x = some (decide (0 ≤ x ∧ x ≤ 255)) := by
    intro x
    unfold intrusionref11_byteSized.f
    by_cases a : x ≥ 0
    · rw [if_pos a]; congr 1; apply decide_eq_decide.mpr; omega
    · rw [if_neg a, decide_eq_false (fun z => by omega)]
  have hkd := kinds_is4 l hl (q + 3) (by omega)
  have hnd := need_is l hl hS (q + 2) (by omega)
  have hno : intrusionref11_Encode.j0 (q + 3) true c id tt pr dn mr off v s1 s2 w d1 d2 l p = some (⟨#[]⟩, 4) := by
    rw [intrusionref11_Encode.j0, if_pos rfl]
  have bad : ¬ ok4 c id tt pr off v s1 s2 w d1 d2 → enc4Of c id tt pr dn mr off v s1 s2 w d1 d2 l p = (⟨#[]⟩, 4) := fun z => by unfold enc4Of; rw [if_neg (fun y => z y.1)]
  unfold intrusionref11_Encode.f
  simp only [hb, bs, ifd, raddress_is, hkd, hno]
  by_cases h1 : 0 ≤ c ∧ c ≤ 255
  case neg => rw [if_neg h1, bad (fun z => h1 z.1.1)]
  rw [if_pos h1]
  by_cases h2 : 0 ≤ tt ∧ tt ≤ 255
  case neg => rw [if_neg h2, bad (fun z => h2 z.1.2.1)]
  rw [if_pos h2]
  by_cases h3 : 0 ≤ pr ∧ pr ≤ 255
  case neg => rw [if_neg h3, bad (fun z => h3 z.1.2.2.1)]
  rw [if_pos h3]
  by_cases h4 : id < 0
  · rw [if_pos h4, bad (fun z => by have := z.1.2.2.2.1; omega)]
  rw [if_neg h4]
  by_cases h5 : id > 65535
  · rw [if_pos h5, bad (fun z => by have := z.1.2.2.2.1; omega)]
  rw [if_neg h5]
  by_cases h6 : off < 0
  · rw [if_pos h6, bad (fun z => by have := z.1.2.2.2.2.1; omega)]
  rw [if_neg h6]
  by_cases h7 : off > 65528
  · rw [if_pos h7, bad (fun z => by have := z.1.2.2.2.2.1; omega)]
  rw [if_neg h7]
  by_cases h8 : Int.tmod off 8 = 0
  case neg => rw [if_neg h8, bad (fun z => h8 z.1.2.2.2.2.2)]
  rw [if_pos h8]
  by_cases h9 : v = false ∧ s1 = 0 ∧ s2 ≤ 4294967295
  case neg => rw [if_neg h9, bad (fun z => h9 z.2.1)]
  rw [if_pos h9]
  by_cases h10 : w = false ∧ d1 = 0 ∧ d2 ≤ 4294967295
  case neg => rw [if_neg h10, bad (fun z => h10 z.2.2)]
  have hN : okN4 c id tt pr off := ⟨h1, h2, h3, by omega, by omega, h8⟩
  rw [if_pos h10]
  unfold enc4Of
  by_cases hK : okK l
  case neg => rw [decide_eq_false hK, Bool.not_false, hno, if_neg (fun z => hK z.2)]
  rw [decide_eq_true hK, Bool.not_true, if_pos ⟨⟨hN, h9, h10⟩, hK⟩, intrusionref11_Encode.j0, if_neg (by decide), hnd]
  simp only [bs]
  by_cases a : (optsB l).length > 40
  · rw [if_pos (by unfold m41; rw [if_pos (by omega)]; omega), if_pos (show (optsB l).length > 40 ∨ 20 + (wrB l).length + p.size > 65535 from .inl a)]
  obtain ⟨z1, z2, z3⟩ := wrB_len l (by omega)
  have zo : (strOfNums (wrB l)).size = (wrB l).length := strOfNums_size _
  rw [if_neg (by unfold m41; rw [if_neg (by omega)]; omega), rwritten_is l hl hK (by omega) (q + 2) (by omega)]
  simp only [bs]
  rw [w64 (n := 20 + ((strOfNums (wrB l)).size : Int)) (by omega) (by omega), w64 (n := 20 + ((strOfNums (wrB l)).size : Int) + (p.size : Int)) (by omega) (by omega)]
  by_cases b : 20 + (wrB l).length + p.size > 65535
  · rw [if_pos (by omega), if_pos (show (optsB l).length > 40 ∨ 20 + (wrB l).length + p.size > 65535 from .inr b)]
  rw [if_neg (by omega), if_neg (show ¬ ((optsB l).length > 40 ∨ 20 + (wrB l).length + p.size > 65535) by omega)]
  have e8 : wrap64 (Int.tdiv off 8) = off / 8 := by rw [Int.tdiv_eq_ediv_of_nonneg (by omega), w64 (by omega) (by omega)]
  have main := fun x hx => rj1_4 c id tt pr dn mr off v s1 s2 w d1 d2 l p (strOfNums (wrB l)) (by omega) (by omega) (by omega) hN q (by omega) x hx
  cases hd : dn with
  | false =>
    rw [if_neg (by decide), e8]
    rw [hd] at main
    exact main _ (by simp)
  | true =>
    rw [if_pos rfl, e8, w64 (n := off / 8 + 16384) (by omega) (by omega)]
    rw [hd] at main
    exact main _ (by simp)
end

def optAt (l : List S50) (a : Nat) : List S50 := if a = 0 then l else l.filter api_Option_48.keep
theorem optAt_len (l : List S50) (a : Nat) : (optAt l a).length ≤ l.length := by
  unfold optAt
  split
  · omega
  · exact List.length_filter_le _ _
section
variable (c id tt pr : Int) (dn mr : Bool) (off : Int) (v : Bool) (s1 s2 : Int) (w : Bool) (d1 d2 : Int) (l : List S50) (p : ByteArray) (z : Int)
def part4 (a e : Nat) : S28 := ⟨c, id, tt, pr, dn, mr || decide ((e : Int) < (p.size : Int)), off + a, ⟨v, s1, s2⟩, ⟨w, d1, d2⟩, optAt l a, p.extract a e⟩
def frags4 : Nat → Nat → List S28 → List S28 × Int
  | 0, _, out => (out, 0)
  | m + 1, a, out => if off + a > 65528 then ([], 4) else if (p.size : Int) - a > z then frags4 m (a + z.toNat) (out ++ [part4 c id tt pr dn mr off v s1 s2 w d1 d2 l p a (a + z.toNat)]) else (out ++ [part4 c id tt pr dn mr off v s1 s2 w d1 d2 l p a p.size], 0)
theorem j4_is (hl : l.length ≤ 4611686018427) (hp : p.size ≤ 1000000) (hoff : 0 ≤ off ∧ off ≤ 65528) (a e : Nat) (hae : a ≤ e) (he : e ≤ p.size) (out : List S28) (hout : out.length < 1034834473200) (q : Nat) :
    ipv4_Split.j4 (q + 2) z (l.filter api_Option_48.keep) out (a : Int) (e : Int) c id tt pr dn mr off v s1 s2 w d1 d2 l p
      = if off + a > 65528 then some ([], 4) else if e = p.size then some (out ++ [part4 c id tt pr dn mr off v s1 s2 w d1 d2 l p a e], 0)
        else ipv4_Split.l0 q z (l.filter api_Option_48.keep) (out ++ [part4 c id tt pr dn mr off v s1 s2 w d1 d2 l p a e]) (wrap64 ((a : Int) + z)) c id tt pr dn mr off v s1 s2 w d1 d2 l p := by
  have hf := List.length_filter_le api_Option_48.keep l
  rw [ipv4_Split.j4, w64 (n := off + (a : Int)) (by omega) (by omega)]
  by_cases h : off + a > 65528
  · rw [if_pos h, if_pos h]
  rw [if_neg h, if_neg h]
  have e0 : (if mr = true then ipv4_Split.j5 (q + 1) z (l.filter api_Option_48.keep) out (a : Int) (e : Int) c id tt pr dn mr off v s1 s2 w d1 d2 l p c id tt pr dn true (off + (a : Int)) v s1 s2 w d1 d2 l p
      else ipv4_Split.j5 (q + 1) z (l.filter api_Option_48.keep) out (a : Int) (e : Int) c id tt pr dn mr off v s1 s2 w d1 d2 l p c id tt pr dn (decide ((e : Int) < (p.size : Int))) (off + (a : Int)) v s1 s2 w d1 d2 l p)
      = ipv4_Split.j5 (q + 1) z (l.filter api_Option_48.keep) out (a : Int) (e : Int) c id tt pr dn mr off v s1 s2 w d1 d2 l p c id tt pr dn (mr || decide ((e : Int) < (p.size : Int))) (off + (a : Int)) v s1 s2 w d1 d2 l p := by
    cases mr
    · rw [if_neg (by decide), Bool.false_or]
    · rw [if_pos rfl, Bool.true_or]
  rw [e0, ipv4_Split.j5, if_pos (by omega), if_pos (by omega), if_pos (by omega)]
  unfold api_Option_49.f
  rw [if_pos (show (l.filter api_Option_48.keep).length < 5864062014805 by omega), if_pos (show l.length < 5864062014805 by omega)]
  simp only [bs, Int.toNat_natCast]
  unfold part4 optAt
  have fin : ∀ (A B : Option (List S28 × Int)), (if (e : Int) = (p.size : Int) then A else B) = if e = p.size then A else B := by
    intro A B
    by_cases h2 : e = p.size
    · rw [if_pos (show (e : Int) = (p.size : Int) by omega), if_pos h2]
    · rw [if_neg (show ¬ (e : Int) = (p.size : Int) by omega), if_neg h2]
  by_cases z0 : a = 0
  · rw [if_pos (show (a : Int) = 0 by omega), if_pos hout, if_pos z0, fin]
  · rw [if_neg (show ¬ (a : Int) = 0 by omega), if_pos hout, if_neg z0, fin]
theorem split_loop (hl : l.length ≤ 4611686018427) (hp : p.size ≤ 1000000) (hoff : 0 ≤ off ∧ off ≤ 65528) (hz : 1 ≤ z) : ∀ (m k a : Nat) (out : List S28), (a = 0 ∨ a < p.size) → out.length ≤ a → p.size < a + m →
    ipv4_Split.l0 (k + 4 * m) z (l.filter api_Option_48.keep) out (a : Int) c id tt pr dn mr off v s1 s2 w d1 d2 l p = some (frags4 c id tt pr dn mr off v s1 s2 w d1 d2 l p z m a out)
  | 0, k, a, out, ha, _, hm => by omega
  | m + 1, k, a, out, ha, hout, hm => by
    rw [show k + 4 * (m + 1) = (k + 4 * m + 2) + 1 + 1 by omega, ipv4_Split.l0]
    have hj : (if (a : Int) = 0 then ipv4_Split.j3 (k + 4 * m + 2 + 1) z (l.filter api_Option_48.keep) out (a : Int) true c id tt pr dn mr off v s1 s2 w d1 d2 l p else ipv4_Split.j3 (k + 4 * m + 2 + 1) z (l.filter api_Option_48.keep) out (a : Int) (decide ((a : Int) < (p.size : Int))) c id tt pr dn mr off v s1 s2 w d1 d2 l p)
        = ipv4_Split.j3 (k + 4 * m + 2 + 1) z (l.filter api_Option_48.keep) out (a : Int) true c id tt pr dn mr off v s1 s2 w d1 d2 l p := by
      by_cases z0 : a = 0
      · rw [if_pos (by omega)]
      · rw [if_neg (by omega), decide_eq_true (by omega)]
    rw [hj, ipv4_Split.j3, if_pos rfl, w64 (n := (p.size : Int) - (a : Int)) (by omega) (by omega), frags4]
    by_cases b : (p.size : Int) - a > z
    · rw [if_pos b, w64 (n := (a : Int) + z) (by omega) (by omega), show (a : Int) + z = ((a + z.toNat : Nat) : Int) by omega,
        j4_is c id tt pr dn mr off v s1 s2 w d1 d2 l p z hl hp hoff a (a + z.toNat) (by omega) (by omega) out (by omega) (k + 4 * m), if_pos b]
      by_cases h : off + a > 65528
      · rw [if_pos h, if_pos h]
      · rw [if_neg h, if_neg h, if_neg (by omega), w64 (n := (a : Int) + z) (by omega) (by omega), show (a : Int) + z = ((a + z.toNat : Nat) : Int) by omega,
          split_loop hl hp hoff hz m k (a + z.toNat) _ (by omega) (by rw [List.length_append, List.length_singleton]; omega) (by omega)]
    · rw [if_neg b, j4_is c id tt pr dn mr off v s1 s2 w d1 d2 l p z hl hp hoff a p.size (by omega) (by omega) out (by omega) (k + 4 * m), if_neg b]
      by_cases h : off + a > 65528
      · rw [if_pos h, if_pos h]
      · rw [if_neg h, if_neg h, if_pos rfl]
def split4Of : List S28 × Int := if z < 8 ∨ Int.tmod z 8 ≠ 0 then ([], 4) else if (enc4Of c id tt pr dn mr off v s1 s2 w d1 d2 l p).2 = 0 then (if dn = true ∧ (p.size : Int) > z then ([], 10) else frags4 c id tt pr dn mr off v s1 s2 w d1 d2 l p z (p.size + 1) 0 []) else ([], (enc4Of c id tt pr dn mr off v s1 s2 w d1 d2 l p).2)
theorem enc4_ok (h : (enc4Of c id tt pr dn mr off v s1 s2 w d1 d2 l p).2 = 0) : (ok4 c id tt pr off v s1 s2 w d1 d2 ∧ okK l) ∧ (optsB l).length ≤ 40 ∧ 20 + (wrB l).length + p.size ≤ 65535 := by
  unfold enc4Of at h
  by_cases a : ok4 c id tt pr off v s1 s2 w d1 d2 ∧ okK l
  case neg => rw [if_neg a] at h; cases h
  rw [if_pos a] at h
  by_cases b : (optsB l).length > 40 ∨ 20 + (wrB l).length + p.size > 65535
  · rw [if_pos b] at h; cases h
  · exact ⟨a, by omega, by omega⟩
theorem small_mod (h1 : 1 ≤ z) (h8 : z < 8) : Int.tmod z 8 ≠ 0 := by
  rw [Int.tmod_eq_emod_of_nonneg (by omega)]
  omega
theorem split4_is (hl : l.length ≤ 4611686018427) (hp : p.size ≤ 1000000) (hz : z ≤ 9223372036854775807) (k : Nat) (hk : l.length + 4 * p.size + 65800 ≤ k) :
    ipv4_Split.f k c id tt pr dn mr off v s1 s2 w d1 d2 l p z = some (split4Of c id tt pr dn mr off v s1 s2 w d1 d2 l p z) := by
  obtain ⟨q, rfl⟩ : ∃ q, k = q + 2 := ⟨k - 2, by omega⟩
  unfold ipv4_Split.f split4Of
  have no : ipv4_Split.j0 (q + 2) z true c id tt pr dn mr off v s1 s2 w d1 d2 l p = some ([], 4) := by rw [ipv4_Split.j0, if_pos rfl]
  by_cases a : z < 8 ∨ Int.tmod z 8 ≠ 0
  · rw [if_pos a]
    by_cases b : z < 1
    · rw [if_pos b, no]
    · have : Int.tmod z 8 ≠ 0 := a.elim (fun h => small_mod z (by omega) h) (fun h => h)
      rw [if_neg b, show (Int.tmod z 8 != 0) = true by simp [this], no]
  have a8 : 8 ≤ z := by omega
  have am : Int.tmod z 8 = 0 := by
    by_cases h : Int.tmod z 8 = 0
    · exact h
    · exact absurd (.inr h) a
  rw [if_neg a, if_neg (by omega), show (Int.tmod z 8 != 0) = false by simp [am], ipv4_Split.j0, if_neg (by decide), encode4_is c id tt pr dn mr off v s1 s2 w d1 d2 l p (by omega) (by omega) (q + 1) (by omega)]
  simp only [bs]
  by_cases h : (enc4Of c id tt pr dn mr off v s1 s2 w d1 d2 l p).2 = 0
  case neg => rw [if_neg h, if_neg h]
  rw [if_pos h, if_pos h]
  have hoff := (enc4_ok c id tt pr dn mr off v s1 s2 w d1 d2 l p h).1.1.1.2.2.2.2.1
  have hj : (if dn = true then ipv4_Split.j1 (q + 1) z (decide ((p.size : Int) > z)) c id tt pr dn mr off v s1 s2 w d1 d2 l p else ipv4_Split.j1 (q + 1) z false c id tt pr dn mr off v s1 s2 w d1 d2 l p)
      = ipv4_Split.j1 (q + 1) z (decide (dn = true ∧ (p.size : Int) > z)) c id tt pr dn mr off v s1 s2 w d1 d2 l p := by
    cases dn
    · rw [if_neg (by decide), decide_eq_false (fun y : false = true ∧ (p.size : Int) > z => absurd y.1 (by decide))]
    · rw [if_pos rfl]
      congr 1
      apply decide_eq_decide.mpr
      exact ⟨fun y => ⟨rfl, y⟩, fun y => y.2⟩
  rw [hj, ipv4_Split.j1]
  by_cases d : dn = true ∧ (p.size : Int) > z
  · rw [if_pos (decide_eq_true d), if_pos d]
  rw [if_neg (by rw [decide_eq_true_iff]; exact d), if_neg d]
  unfold api_Option_49.f
  rw [if_pos (show l.length < 5864062014805 by omega)]
  simp only [bs]
  unfold api_Option_48.f
  simp only [bs]
  have main := split_loop c id tt pr dn mr off v s1 s2 w d1 d2 l p z hl hp hoff (by omega) (p.size + 1) (q - 4 * (p.size + 1)) 0 [] (.inl rfl) (by simp) (by omega)
  rw [show q - 4 * (p.size + 1) + 4 * (p.size + 1) = q by omega] at main
  exact main
theorem frags4_opts : ∀ (m a : Nat) (out : List S28), (∀ y ∈ out, y.f9.length ≤ l.length) → ∀ y ∈ (frags4 c id tt pr dn mr off v s1 s2 w d1 d2 l p z m a out).1, y.f9.length ≤ l.length
  | 0, a, out, h => h
  | m + 1, a, out, h => by
    have hp : ∀ e, ∀ y ∈ out ++ [part4 c id tt pr dn mr off v s1 s2 w d1 d2 l p a e], y.f9.length ≤ l.length := by
      intro e y hy
      rcases List.mem_append.mp hy with hy | hy
      · exact h y hy
      · rw [List.mem_singleton.mp hy]
        exact optAt_len l a
    rw [frags4]
    split
    · intro y hy; cases hy
    · split
      · exact frags4_opts m _ _ (hp _)
      · exact hp _
theorem frags4_len (hz : 1 ≤ z) : ∀ (m a : Nat) (out : List S28), out.length ≤ a → (a = 0 ∨ a < p.size) → (frags4 c id tt pr dn mr off v s1 s2 w d1 d2 l p z m a out).1.length ≤ p.size + 1
  | 0, a, out, h, ha => by show out.length ≤ _; omega
  | m + 1, a, out, h, ha => by
    rw [frags4]
    split
    · simp
    · split
      · exact frags4_len hz m _ _ (by rw [List.length_append, List.length_singleton]; omega) (by omega)
      · show (out ++ [_]).length ≤ _
        rw [List.length_append, List.length_singleton]; omega
theorem split4_opts : ∀ y ∈ (split4Of c id tt pr dn mr off v s1 s2 w d1 d2 l p z).1, y.f9.length ≤ l.length := by
  unfold split4Of
  split
  · intro y hy; cases hy
  · split
    · split
      · intro y hy; cases hy
      · exact frags4_opts c id tt pr dn mr off v s1 s2 w d1 d2 l p z _ _ _ (fun y hy => by cases hy)
    · intro y hy; cases hy
theorem split4_len : (split4Of c id tt pr dn mr off v s1 s2 w d1 d2 l p z).1.length ≤ p.size + 1 := by
  unfold split4Of
  split
  · simp
  · split
    · split
      · simp
      · exact frags4_len c id tt pr dn mr off v s1 s2 w d1 d2 l p z (by omega) _ _ _ (by simp) (.inl rfl)
    · simp
def Chain4 : Nat → List S28 → Prop
  | _, [] => False
  | a, [y] => off + a ≤ 65528 ∧ (p.size : Int) - a ≤ z ∧ y = part4 c id tt pr dn mr off v s1 s2 w d1 d2 l p a p.size
  | a, y :: x :: r => off + a ≤ 65528 ∧ (p.size : Int) - a > z ∧ y = part4 c id tt pr dn mr off v s1 s2 w d1 d2 l p a (a + z.toNat) ∧ Chain4 (a + z.toNat) (x :: r)
theorem copied_loop (q : ByteArray) (o : Int) (mm : Bool) (a : Nat) (hl : l.length ≤ 4611686018427) : ∀ (m i k : Nat), i + m = l.length →
    intrusionref11_copied.l0 (k + m + 1) q o mm (a : Int) (optAt (l.take i) a) (i : Int) c id tt pr dn mr off v s1 s2 w d1 d2 l p = some (c, id, tt, pr, dn, mm, o, v, s1, s2, w, d1, d2, optAt l a, q)
  | 0, i, k, h => by
    rw [intrusionref11_copied.l0, if_neg (by omega), List.take_of_length_le (by omega)]
  | m + 1, i, k, h => by
    have hlt : i < l.length := by omega
    have hlen := optAt_len (l.take i) a
    have hlen2 : (optAt (l.take i) a).length < 5864062014805 := by have := List.length_take_le i l; omega
    have ih := copied_loop q o mm a hl m (i + 1) k (by omega)
    rw [List.take_succ_eq_append_getElem hlt] at ih
    rw [show k + (m + 1) + 1 = (k + m + 1) + 1 by omega, intrusionref11_copied.l0, if_pos (by omega), rd125 l i hlt, w64 (n := (i : Int) + 1) (by omega) (by omega), show (i : Int) + 1 = ((i + 1 : Nat) : Int) by omega]
    by_cases z0 : a = 0
    · rw [if_pos (show (a : Int) = 0 by omega), if_pos (show (0 : Int) ≤ (i : Int) by omega), if_pos hlen2]
      unfold optAt at ih ⊢
      rw [if_pos z0] at ih
      rw [if_pos z0, if_pos z0]
      rw [if_pos z0] at ih
      exact ih
    · rw [if_neg (show ¬ (a : Int) = 0 by omega), if_pos (show (0 : Int) ≤ (i : Int) by omega)]
      unfold optAt at ih hlen2 ⊢
      rw [if_neg z0] at ih hlen2
      rw [if_neg z0] at ih
      rw [if_neg z0, if_neg z0]
      rw [List.filter_append] at ih
      by_cases h8 : l[i].f0 ≥ 128
      · rw [if_pos h8, if_pos hlen2]
        rw [List.filter_cons_of_pos (by unfold api_Option_48.keep; rw [decide_eq_false (by omega)]; rfl), List.filter_nil] at ih
        exact ih
      · rw [if_neg h8]
        rw [List.filter_cons_of_neg (by unfold api_Option_48.keep; rw [decide_eq_true (by omega)]; decide), List.filter_nil, List.append_nil] at ih
        exact ih
theorem copied_is (q : ByteArray) (o : Int) (mm : Bool) (a : Nat) (hl : l.length ≤ 4611686018427) (k : Nat) (hk : l.length + 1 ≤ k) :
    intrusionref11_copied.f k c id tt pr dn mr off v s1 s2 w d1 d2 l p q o mm (a : Int) = some (c, id, tt, pr, dn, mm, o, v, s1, s2, w, d1, d2, optAt l a, q) := by
  have := copied_loop c id tt pr dn mr off v s1 s2 w d1 d2 l p q o mm a hl l.length 0 (k - l.length - 1) (by omega)
  rw [show k - l.length - 1 + l.length + 1 = k by omega, List.take_zero] at this
  unfold intrusionref11_copied.f
  rw [show optAt ([] : List S50) a = [] by unfold optAt; split <;> rfl] at this
  exact this
theorem rsplit_loop4 (hl : l.length ≤ 4611686018427) (hp : p.size ≤ 1000000) (hoff : 0 ≤ off ∧ off ≤ 65528) (hz : 1 ≤ z) : ∀ (m k a : Nat) (out : List S28), l.length + 1 ≤ k → a < p.size → out.length ≤ a → p.size < a + m →
    intrusionref11_Split.l0 (k + m) z out (a : Int) c id tt pr dn mr off v s1 s2 w d1 d2 l p = some (frags4 c id tt pr dn mr off v s1 s2 w d1 d2 l p z m a out)
  | 0, k, a, out, hk, ha, _, hm => by omega
  | m + 1, k, a, out, hk, ha, hout, hm => by
    rw [show k + (m + 1) = (k + m) + 1 by omega, intrusionref11_Split.l0, if_pos (by omega), w64 (n := off + (a : Int)) (by omega) (by omega), frags4]
    by_cases h : off + a > 65528
    · rw [if_pos h, if_pos h]
    rw [if_neg h, if_neg h, w64 (n := (p.size : Int) - (a : Int)) (by omega) (by omega)]
    by_cases b : (p.size : Int) - a > z
    · rw [if_pos b, if_neg (show ¬ ((p.size : Int) - (a : Int) ≤ z) by omega), w64 (n := (a : Int) + z) (by omega) (by omega), show (a : Int) + z = ((a + z.toNat : Nat) : Int) by omega, if_pos (by omega), if_pos (by omega), if_pos (by omega), Int.toNat_natCast, Int.toNat_natCast,
        copied_is c id tt pr dn mr off v s1 s2 w d1 d2 l p _ _ _ a hl (k + m) (by omega)]
      simp only [bs]
      rw [if_pos (by omega), if_neg (show ¬ ((p.size : Int) - (a : Int) ≤ z) by omega)]
      have ih := rsplit_loop4 hl hp hoff hz m k (a + z.toNat) (out ++ [part4 c id tt pr dn mr off v s1 s2 w d1 d2 l p a (a + z.toNat)]) hk (by omega) (by rw [List.length_append, List.length_singleton]; omega) (by omega)
      unfold part4 at ih
      rw [show (mr || decide (((a + z.toNat : Nat) : Int) < (p.size : Int))) = true by rw [decide_eq_true (by omega), Bool.or_true]] at ih
      unfold part4
      rw [show (mr || decide (((a + z.toNat : Nat) : Int) < (p.size : Int))) = true by rw [decide_eq_true (by omega), Bool.or_true]]
      exact ih
    · rw [if_neg b, if_pos (show (p.size : Int) - (a : Int) ≤ z by omega), show (a : Int) + ((p.size : Int) - (a : Int)) = ((p.size : Nat) : Int) by omega, w64 (n := ((p.size : Nat) : Int)) (by omega) (by omega), if_pos (by omega), if_pos (by omega), if_pos (by omega), Int.toNat_natCast, Int.toNat_natCast,
        copied_is c id tt pr dn mr off v s1 s2 w d1 d2 l p _ _ _ a hl (k + m) (by omega)]
      simp only [bs]
      rw [if_pos (by omega), if_pos (show (p.size : Int) - (a : Int) ≤ z by omega)]
      unfold part4
      rw [show (mr || decide ((p.size : Int) < (p.size : Int))) = mr by rw [decide_eq_false (by omega), Bool.or_false]]
theorem rsplit4_is (hl : l.length ≤ 4611686018427) (hS : ∀ x ∈ l, x.f1.size ≤ 140737488351232) (hp : p.size ≤ 1000000) (hz : z ≤ 9223372036854775807) (k : Nat) (hk : l.length + 4 * p.size + 65800 ≤ k) :
    intrusionref11_Split.f k c id tt pr dn mr off v s1 s2 w d1 d2 l p z = some (split4Of c id tt pr dn mr off v s1 s2 w d1 d2 l p z) := by
  obtain ⟨q, rfl⟩ : ∃ q, k = q + 1 := ⟨k - 1, by omega⟩
  unfold intrusionref11_Split.f split4Of
  have no : intrusionref11_Split.j0 (q + 1) z true c id tt pr dn mr off v s1 s2 w d1 d2 l p = some ([], 4) := by rw [intrusionref11_Split.j0, if_pos rfl]
  by_cases a : z < 8 ∨ Int.tmod z 8 ≠ 0
  · rw [if_pos a]
    by_cases b : z < 8
    · rw [if_pos b, no]
    · have : Int.tmod z 8 ≠ 0 := a.elim (fun h => absurd h b) (fun h => h)
      rw [if_neg b, show (Int.tmod z 8 != 0) = true by simp [this], no]
  have a8 : 8 ≤ z := by omega
  have am : Int.tmod z 8 = 0 := by
    by_cases h : Int.tmod z 8 = 0
    · exact h
    · exact absurd (.inr h) a
  rw [if_neg a, if_neg (by omega), show (Int.tmod z 8 != 0) = false by simp [am], intrusionref11_Split.j0, if_neg (by decide), rencode4_is c id tt pr dn mr off v s1 s2 w d1 d2 l p (by omega) hS (by omega) q (by omega)]
  simp only [bs]
  by_cases h : (enc4Of c id tt pr dn mr off v s1 s2 w d1 d2 l p).2 = 0
  case neg => rw [if_neg h, if_neg h]
  rw [if_pos h, if_pos h]
  have hoff := (enc4_ok c id tt pr dn mr off v s1 s2 w d1 d2 l p h).1.1.1.2.2.2.2.1
  by_cases b : (p.size : Int) ≤ z
  · rw [if_pos b, if_neg (show ¬ (dn = true ∧ (p.size : Int) > z) by omega), frags4, if_neg (by omega), if_neg (by omega)]
    have hc := copied_is c id tt pr dn mr off v s1 s2 w d1 d2 l p p off mr 0 hl q (by omega)
    rw [show ((0 : Nat) : Int) = 0 from rfl] at hc
    rw [hc]
    simp only [bs]
    unfold part4
    rw [show (mr || decide ((p.size : Int) < (p.size : Int))) = mr by rw [decide_eq_false (by omega), Bool.or_false], show off + ((0 : Nat) : Int) = off by omega, show p.extract 0 p.size = p from ByteArray.extract_zero_size]
    rfl
  rw [if_neg b]
  by_cases d : dn = true
  · rw [if_pos d, if_pos ⟨d, by omega⟩]
  rw [if_neg d, if_neg (fun y => d y.1)]
  have main := rsplit_loop4 c id tt pr dn mr off v s1 s2 w d1 d2 l p z hl hp hoff (by omega) (p.size + 1) (q - (p.size + 1)) 0 [] (by omega) (by omega) (by simp) (by omega)
  rw [show q - (p.size + 1) + (p.size + 1) = q by omega] at main
  exact main
end

theorem rd28 (l : List S28) (i : Nat) (h : i < l.length) : rd_T28 l (i : Int) = l[i] := by
  unfold rd_T28
  rw [Int.toNat_natCast, List.getD_eq_getElem?_getD, List.getElem?_eq_getElem h]
  rfl
theorem parts_same (x : List S28) (hx : ∀ y ∈ x, y.f9.length ≤ 60) (hl : x.length ≤ 4611686018427387904) : ∀ (m i k : Nat), i + m = x.length →
    intrusionlaw11_Ipv4Splits.l0 (k + m + 301) x x x.length (i : Int) = some true
  | 0, i, k, hi => by
    rw [show k + 0 + 301 = (k + 300) + 1 by omega, intrusionlaw11_Ipv4Splits.l0, if_neg (by omega), awake11_is (k + 300) (by omega)]
    rfl
  | m + 1, i, k, hi => by
    have hlt : i < x.length := by omega
    have hf := hx x[i] (List.getElem_mem hlt)
    rw [show k + (m + 1) + 301 = (k + m + 301) + 1 by omega, intrusionlaw11_Ipv4Splits.l0, if_pos (by omega), if_pos (by omega), if_pos (by omega), if_pos (by omega), rd28 x i hlt, same4_self _ _ _ _ _ _ _ _ _ _ _ _ _ _ _ (by omega) _ (by omega)]
    simp only [bs, if_true]
    rw [w64 (n := (i : Int) + 1) (by omega) (by omega), show (i : Int) + 1 = ((i + 1 : Nat) : Int) by omega]
    exact parts_same x hx hl m (i + 1) k (by omega)
theorem Ipv4Splits : intrusionlaw11_Ipv4Splits.Pure := by
  intro c id tt pr dn mr off v s1 s2 w d1 d2 l p z _ _ _ _ _ _ _ _ _ _ hS hp hz
  have uz := wf_i64 hz
  obtain ⟨K, hK⟩ : ∃ K, 100000 = K := ⟨_, rfl⟩
  refine ⟨K + 1, ?_⟩
  unfold intrusionlaw11_Ipv4Splits.f
  rw [large_is]
  simp only [bs]
  have no : intrusionlaw11_Ipv4Splits.j0 (K + 1) z true c id tt pr dn mr off v s1 s2 w d1 d2 l p = some true := by
    rw [intrusionlaw11_Ipv4Splits.j0, if_pos rfl, awake11_is K (by omega)]
    simp only [bs]
  by_cases hL : p.size > 70000 ∨ l.length > 60
  · rw [if_pos (decide_eq_true hL), no]
  rw [if_neg (by rw [decide_eq_true_iff]; exact hL)]
  by_cases hA : (p.size : Int) > 3000
  · rw [decide_eq_true hA, no]
  rw [decide_eq_false hA, intrusionlaw11_Ipv4Splits.j0, if_neg (by decide), split4_is c id tt pr dn mr off v s1 s2 w d1 d2 l p z (by omega) (by omega) (by omega) K (by omega),
    rsplit4_is c id tt pr dn mr off v s1 s2 w d1 d2 l p z (by omega) (fun x hx => (hS x hx).2) (by omega) (by omega) K (by omega)]
  simp only [bs]
  have ho := split4_opts c id tt pr dn mr off v s1 s2 w d1 d2 l p z
  have hn := split4_len c id tt pr dn mr off v s1 s2 w d1 d2 l p z
  generalize split4Of c id tt pr dn mr off v s1 s2 w d1 d2 l p z = q at ho hn ⊢
  obtain ⟨x, e⟩ := q
  dsimp only at ho hn ⊢
  obtain ⟨J, rfl⟩ : ∃ J, K = J + 1 := ⟨K - 1, by omega⟩
  rw [if_pos trivial, show (e != e) = false by simp, intrusionlaw11_Ipv4Splits.j1, if_neg (by decide)]
  have main := parts_same x (fun y hy => by have := ho y hy; omega) (by omega) x.length 0 (J - x.length - 301) (by omega)
  rw [show J - x.length - 301 + x.length + 301 = J by omega] at main
  exact main
end Go.Proofs.Ytobioaommmgehaa.Pure

